/-
  
-/
import Derived.Test.YtmoaeemdlompaaaDoorPas
import Derived.Test.YtmoaeemdlompaaaDoorPat
import Derived.Test.YtmoaeemdlompaaaDoorPau
import Derived.Test.YtmoaeemdlompaaaDoorPaq
import Derived.Test.YtmoaeemdlompaaaDoorPav
import Derived.Test.YtmoaeemdlompaaaDoorPaw
import Derived.Test.YtmoaeemdlompaaaDoorPax
import Derived.Test.YtmoaeemdlompaaaDoorPar
import Derived.Test.YtmoaeemdlompaaaDoorPan
import Derived.Test.YtmoaeemdlompaaaDoorPao
set_option linter.unusedSimpArgs false
set_option linter.unusedVariables false
namespace Go.Sx.T5
open Go.RowKit Go.Proofs
def pu0 : Nat → List C → Option C := fun _ _ => none
theorem ok0 {gl : Nat → C} (hgn : ∀ g,noRef 0 (gl g) = true) (hg0 : gl 0 = .kp (cl wC kc)) (hg2 : gl 2 = .kp (cl wC kc)) (M : Nat) : CxOK (cxP gl M pu0) := CxOK.zero hgn
theorem hnr0 : ∀ (g : Nat) (xs : List C),noRefs 0 xs = false → pu0 g xs = none := fun _ _ _ => rfl
theorem hno0 : ∀ (g : Nat) (xs : List C),refy xs = true → pu0 g xs = none := hno_zero
abbrev D1 := {q0 : Int × Nat // (-9223372036854775808 ≤ (q0.1) ∧ (q0.1) ≤ 9223372036854775807 ∧ 0 < (q0.2) ∧ (q0.2) ≤ 9223372036854775807)}
def enc1 (q0 : D1) : List C := [.val (.int .i64 (q0.1.1)),.val (nI (q0.1.2))]
def out1 (q0 : D1) : C := .val (nI (aroundI (q0.1.1) (q0.1.2)))
noncomputable def pu1 : Nat → List C → Option C := Sx.ext pu0 17 (tabOf enc1 out1)
theorem nr1 (x : D1) : noRefs 0 (enc1 x) = true := by
  simp only [enc1,noRef_val,noRef_agg,noRef_tup,noRef_kp,noRef_sl,noRefs_cl,noRefs_cons,noRefs_nil,noRefs_app,Bool.and_self,Bool.and_true,noRef_fn,noRef_fnM,noRef_eC,atG_nr79]
theorem ij1 (x y : D1) (h : enc1 x = enc1 y) : out1 x = out1 y := by
  simp only [enc1,List.cons.injEq,C.val.injEq,C.agg.injEq,C.kp.injEq,C.fn.injEq,eC_inj,str_inj,nI_inj,nU_inj,w8_inj,w32_inj,cl_inj,sl_inj,Value.int.injEq,Value.bool.injEq,true_and,and_true] at h; simp only [out1,h]
theorem ok1 {gl : Nat → C} (hgn : ∀ g,noRef 0 (gl g) = true) (hg0 : gl 0 = .kp (cl wC kc)) (hg2 : gl 2 = .kp (cl wC kc)) (M : Nat) : CxOK (cxP gl M pu1) := CxOK.ext2 (N := 0) (ok0 hgn hg0 hg2 0) nr1 fun q0 => fc17 (ok0 hgn hg0 hg2 0) ((q0.1.1)) ((q0.1.2)) q0.2
theorem hnr1 : ∀ (g : Nat) (xs : List C),noRefs 0 xs = false → pu1 g xs = none := hnr_ext hnr0 nr1
theorem hno1 : ∀ (g : Nat) (xs : List C),refy xs = true → pu1 g xs = none := hno_ext hno0 nr1
theorem hit1 (n : Int) (m : Nat) (hc0 : -9223372036854775808 ≤ n ∧ n ≤ 9223372036854775807 ∧ 0 < m ∧ m ≤ 9223372036854775807) : pu1 17 [.val (.int .i64 n),.val (nI m)] = some (.val (nI (aroundI n m))) :=
  (ext_hit _).trans (tabOf_enc ij1 ⟨(n,m),hc0⟩)
abbrev D2 := {q0 : (List Int) × Nat × Nat // (LI (q0.1)) ∧ ((q0.2.1) ≤ 1000000) ∧ (0 < (q0.2.2) ∧ (q0.2.2) ≤ 9223372036854775807)}
def enc2 (q0 : D2) : List C := [sl iC .no (q0.1.1),.val (nI (q0.1.2.1)),.val (nI (q0.1.2.2))]
def out2 (q0 : D2) : C := .val (nI (atI (q0.1.1) (q0.1.2.1) (q0.1.2.2)))
noncomputable def pu2 : Nat → List C → Option C := Sx.ext pu1 48 (tabOf enc2 out2)
theorem nr2 (x : D2) : noRefs 0 (enc2 x) = true := by
  simp only [enc2,noRef_val,noRef_agg,noRef_tup,noRef_kp,noRef_sl,noRefs_cl,noRefs_cons,noRefs_nil,noRefs_app,Bool.and_self,Bool.and_true,noRef_fn,noRef_fnM,noRef_eC,atG_nr79]
theorem ij2 (x y : D2) (h : enc2 x = enc2 y) : out2 x = out2 y := by
  simp only [enc2,List.cons.injEq,C.val.injEq,C.agg.injEq,C.kp.injEq,C.fn.injEq,eC_inj,str_inj,nI_inj,nU_inj,w8_inj,w32_inj,cl_inj,sl_inj,Value.int.injEq,Value.bool.injEq,true_and,and_true] at h; simp only [out2,h]
theorem ok2 {gl : Nat → C} (hgn : ∀ g,noRef 0 (gl g) = true) (hg0 : gl 0 = .kp (cl wC kc)) (hg2 : gl 2 = .kp (cl wC kc)) (M : Nat) : CxOK (cxP gl M pu2) := CxOK.ext2 (N := 0) (ok1 hgn hg0 hg2 0) nr2 fun q0 => fc48 (ok1 hgn hg0 hg2 0) (by intros; apply hit1 <;> first | assumption | omega) ((q0.1.1)) ((q0.1.2.1)) ((q0.1.2.2)) q0.2.1 q0.2.2.1 q0.2.2.2
theorem hnr2 : ∀ (g : Nat) (xs : List C),noRefs 0 xs = false → pu2 g xs = none := hnr_ext hnr1 nr2
theorem hno2 : ∀ (g : Nat) (xs : List C),refy xs = true → pu2 g xs = none := hno_ext hno1 nr2
theorem hit2 (l : List Int) (i : Nat) (m : Nat) (hc0 : LI l) (hc1 : i ≤ 1000000) (hc2 : 0 < m ∧ m ≤ 9223372036854775807) : pu2 48 [sl iC .no l,.val (nI i),.val (nI m)] = some (.val (nI (atI l i m))) :=
  (ext_hit _).trans (tabOf_enc ij2 ⟨(l,i,m),⟨hc0,hc1,hc2⟩⟩)
abbrev D3 := {q0 : Nat // ((q0) ≤ 1000000000000)}
def enc3 (q0 : D3) : List C := [.val (nI (q0.1))]
def out3 (q0 : D3) : C := .val (str (keyT (q0.1)))
noncomputable def pu3 : Nat → List C → Option C := Sx.ext pu2 49 (tabOf enc3 out3)
theorem nr3 (x : D3) : noRefs 0 (enc3 x) = true := by
  simp only [enc3,noRef_val,noRef_agg,noRef_tup,noRef_kp,noRef_sl,noRefs_cl,noRefs_cons,noRefs_nil,noRefs_app,Bool.and_self,Bool.and_true,noRef_fn,noRef_fnM,noRef_eC,atG_nr79]
theorem ij3 (x y : D3) (h : enc3 x = enc3 y) : out3 x = out3 y := by
  simp only [enc3,List.cons.injEq,C.val.injEq,C.agg.injEq,C.kp.injEq,C.fn.injEq,eC_inj,str_inj,nI_inj,nU_inj,w8_inj,w32_inj,cl_inj,sl_inj,Value.int.injEq,Value.bool.injEq,true_and,and_true] at h; simp only [out3,h]
theorem ok3 {gl : Nat → C} (hgn : ∀ g,noRef 0 (gl g) = true) (hg0 : gl 0 = .kp (cl wC kc)) (hg2 : gl 2 = .kp (cl wC kc)) (M : Nat) : CxOK (cxP gl M pu3) := CxOK.ext2 (N := 0) (ok2 hgn hg0 hg2 0) nr3 fun q0 => fc49 (ok2 hgn hg0 hg2 0) ((q0.1)) q0.2
theorem hnr3 : ∀ (g : Nat) (xs : List C),noRefs 0 xs = false → pu3 g xs = none := hnr_ext hnr2 nr3
theorem hno3 : ∀ (g : Nat) (xs : List C),refy xs = true → pu3 g xs = none := hno_ext hno2 nr3
theorem hit3 (n : Nat) (hc0 : n ≤ 1000000000000) : pu3 49 [.val (nI n)] = some (.val (str (keyT n))) :=
  (ext_hit _).trans (tabOf_enc ij3 ⟨(n),hc0⟩)
abbrev D4 := {q0 : (List Int) // (LI (q0))}
def enc4 (q0 : D4) : List C := [sl iC .no (q0.1)]
def out4 (q0 : D4) : C := sl eC (.own 2) (lvsT (q0.1))
noncomputable def pu4 : Nat → List C → Option C := Sx.ext pu3 10 (tabOf enc4 out4)
theorem nr4 (x : D4) : noRefs 0 (enc4 x) = true := by
  simp only [enc4,noRef_val,noRef_agg,noRef_tup,noRef_kp,noRef_sl,noRefs_cl,noRefs_cons,noRefs_nil,noRefs_app,Bool.and_self,Bool.and_true,noRef_fn,noRef_fnM,noRef_eC,atG_nr79]
theorem ij4 (x y : D4) (h : enc4 x = enc4 y) : out4 x = out4 y := by
  simp only [enc4,List.cons.injEq,C.val.injEq,C.agg.injEq,C.kp.injEq,C.fn.injEq,eC_inj,str_inj,nI_inj,nU_inj,w8_inj,w32_inj,cl_inj,sl_inj,Value.int.injEq,Value.bool.injEq,true_and,and_true] at h; simp only [out4,h]
theorem ok4 {gl : Nat → C} (hgn : ∀ g,noRef 0 (gl g) = true) (hg0 : gl 0 = .kp (cl wC kc)) (hg2 : gl 2 = .kp (cl wC kc)) (M : Nat) : CxOK (cxP gl M pu4) := CxOK.ext2 (N := 0) (ok3 hgn hg0 hg2 0) nr4 fun q0 => fc10 (ok3 hgn hg0 hg2 0) (by intros; (iterate 1 refine (ext_miss (by decide) _).trans ?_); apply hit2 <;> first | assumption | omega) (by intros; apply hit3 <;> first | assumption | omega) ((q0.1)) q0.2
theorem hnr4 : ∀ (g : Nat) (xs : List C),noRefs 0 xs = false → pu4 g xs = none := hnr_ext hnr3 nr4
theorem hno4 : ∀ (g : Nat) (xs : List C),refy xs = true → pu4 g xs = none := hno_ext hno3 nr4
theorem hit4 (l : List Int) (hc0 : LI l) : pu4 10 [sl iC .no l] = some (sl eC (.own 2) (lvsT l)) :=
  (ext_hit _).trans (tabOf_enc ij4 ⟨(l),hc0⟩)
abbrev D5 := {q0 : Int // (-9223372036854775808 ≤ (q0) ∧ (q0) ≤ 9223372036854775807)}
def enc5 (q0 : D5) : List C := [.val (.int .i64 (q0.1))]
def out5 (q0 : D5) : C := sl bC (.own 1) (wint (q0.1))
noncomputable def pu5 : Nat → List C → Option C := Sx.ext pu4 83 (tabOf enc5 out5)
theorem nr5 (x : D5) : noRefs 0 (enc5 x) = true := by
  simp only [enc5,noRef_val,noRef_agg,noRef_tup,noRef_kp,noRef_sl,noRefs_cl,noRefs_cons,noRefs_nil,noRefs_app,Bool.and_self,Bool.and_true,noRef_fn,noRef_fnM,noRef_eC,atG_nr79]
theorem ij5 (x y : D5) (h : enc5 x = enc5 y) : out5 x = out5 y := by
  simp only [enc5,List.cons.injEq,C.val.injEq,C.agg.injEq,C.kp.injEq,C.fn.injEq,eC_inj,str_inj,nI_inj,nU_inj,w8_inj,w32_inj,cl_inj,sl_inj,Value.int.injEq,Value.bool.injEq,true_and,and_true] at h; simp only [out5,h]
theorem ok5 {gl : Nat → C} (hgn : ∀ g,noRef 0 (gl g) = true) (hg0 : gl 0 = .kp (cl wC kc)) (hg2 : gl 2 = .kp (cl wC kc)) (M : Nat) : CxOK (cxP gl M pu5) := CxOK.ext2 (N := 0) (ok4 hgn hg0 hg2 0) nr5 fun q0 => fc83 (ok4 hgn hg0 hg2 0) ((q0.1)) q0.2
theorem hnr5 : ∀ (g : Nat) (xs : List C),noRefs 0 xs = false → pu5 g xs = none := hnr_ext hnr4 nr5
theorem hno5 : ∀ (g : Nat) (xs : List C),refy xs = true → pu5 g xs = none := hno_ext hno4 nr5
theorem hit5 (n : Int) (hc0 : -9223372036854775808 ≤ n ∧ n ≤ 9223372036854775807) : pu5 83 [.val (.int .i64 n)] = some (sl bC (.own 1) (wint n)) :=
  (ext_hit _).trans (tabOf_enc ij5 ⟨(n),hc0⟩)
abbrev D6 := {q0 : (List UInt8) // ((q0).length < 70368744177664)}
def enc6 (q0 : D6) : List C := [.val (str (q0.1))]
def out6 (q0 : D6) : C := sl bC (.own 1) (wb (q0.1))
noncomputable def pu6 : Nat → List C → Option C := Sx.ext pu5 95 (tabOf enc6 out6)
theorem nr6 (x : D6) : noRefs 0 (enc6 x) = true := by
  simp only [enc6,noRef_val,noRef_agg,noRef_tup,noRef_kp,noRef_sl,noRefs_cl,noRefs_cons,noRefs_nil,noRefs_app,Bool.and_self,Bool.and_true,noRef_fn,noRef_fnM,noRef_eC,atG_nr79]
theorem ij6 (x y : D6) (h : enc6 x = enc6 y) : out6 x = out6 y := by
  simp only [enc6,List.cons.injEq,C.val.injEq,C.agg.injEq,C.kp.injEq,C.fn.injEq,eC_inj,str_inj,nI_inj,nU_inj,w8_inj,w32_inj,cl_inj,sl_inj,Value.int.injEq,Value.bool.injEq,true_and,and_true] at h; simp only [out6,h]
theorem ok6 {gl : Nat → C} (hgn : ∀ g,noRef 0 (gl g) = true) (hg0 : gl 0 = .kp (cl wC kc)) (hg2 : gl 2 = .kp (cl wC kc)) (M : Nat) : CxOK (cxP gl M pu6) := CxOK.ext2 (N := 0) (ok5 hgn hg0 hg2 0) nr6 fun q0 => fc95 (ok5 hgn hg0 hg2 0) (by intros; rename_i m hm; exact (hit5 (m : Int) (by omega)).trans (by rw [wint_pos])) ((q0.1)) q0.2
theorem hnr6 : ∀ (g : Nat) (xs : List C),noRefs 0 xs = false → pu6 g xs = none := hnr_ext hnr5 nr6
theorem hno6 : ∀ (g : Nat) (xs : List C),refy xs = true → pu6 g xs = none := hno_ext hno5 nr6
theorem hit6 (s : List UInt8) (hc0 : s.length < 70368744177664) : pu6 95 [.val (str s)] = some (sl bC (.own 1) (wb s)) :=
  (ext_hit _).trans (tabOf_enc ij6 ⟨(s),hc0⟩)
abbrev D7 := {q0 : Int × (List (List UInt8)) // ((inp (q0.1) (q0.2)).length < 1099511627776)}
def enc7 (q0 : D7) : List C := [.val (.int .i64 (q0.1.1)),sl sC .no (q0.1.2)]
def out7 (q0 : D7) : C := sl bC (.own 1) (inp (q0.1.1) (q0.1.2))
noncomputable def pu7 : Nat → List C → Option C := Sx.ext pu6 65 (tabOf enc7 out7)
theorem nr7 (x : D7) : noRefs 0 (enc7 x) = true := by
  simp only [enc7,noRef_val,noRef_agg,noRef_tup,noRef_kp,noRef_sl,noRefs_cl,noRefs_cons,noRefs_nil,noRefs_app,Bool.and_self,Bool.and_true,noRef_fn,noRef_fnM,noRef_eC,atG_nr79]
theorem ij7 (x y : D7) (h : enc7 x = enc7 y) : out7 x = out7 y := by
  simp only [enc7,List.cons.injEq,C.val.injEq,C.agg.injEq,C.kp.injEq,C.fn.injEq,eC_inj,str_inj,nI_inj,nU_inj,w8_inj,w32_inj,cl_inj,sl_inj,Value.int.injEq,Value.bool.injEq,true_and,and_true] at h; simp only [out7,h]
theorem ok7 {gl : Nat → C} (hgn : ∀ g,noRef 0 (gl g) = true) (hg0 : gl 0 = .kp (cl wC kc)) (hg2 : gl 2 = .kp (cl wC kc)) (M : Nat) : CxOK (cxP gl M pu7) := CxOK.ext2 (N := 0) (ok6 hgn hg0 hg2 0) nr7 fun q0 => fc65 (ok6 hgn hg0 hg2 0) (by intros; apply hit6 <;> first | assumption | omega) ((q0.1.1)) ((q0.1.2)) q0.2
theorem hnr7 : ∀ (g : Nat) (xs : List C),noRefs 0 xs = false → pu7 g xs = none := hnr_ext hnr6 nr7
theorem hno7 : ∀ (g : Nat) (xs : List C),refy xs = true → pu7 g xs = none := hno_ext hno6 nr7
theorem hit7 (tag : Int) (parts : List (List UInt8)) (hc0 : (inp tag parts).length < 1099511627776) : pu7 65 [.val (.int .i64 tag),sl sC .no parts] = some (sl bC (.own 1) (inp tag parts)) :=
  (ext_hit _).trans (tabOf_enc ij7 ⟨(tag,parts),hc0⟩)
abbrev D8 := {q0 : (List UInt8) // ((q0).length < 35184372088832)}
def enc8 (q0 : D8) : List C := [sl bC .no (q0.1)]
def out8 (q0 : D8) : C := sl bC (.own 1) ((q0.1) ++ pad (q0.1).length)
noncomputable def pu8 : Nat → List C → Option C := Sx.ext pu7 108 (tabOf enc8 out8)
theorem nr8 (x : D8) : noRefs 0 (enc8 x) = true := by
  simp only [enc8,noRef_val,noRef_agg,noRef_tup,noRef_kp,noRef_sl,noRefs_cl,noRefs_cons,noRefs_nil,noRefs_app,Bool.and_self,Bool.and_true,noRef_fn,noRef_fnM,noRef_eC,atG_nr79]
theorem ij8 (x y : D8) (h : enc8 x = enc8 y) : out8 x = out8 y := by
  simp only [enc8,List.cons.injEq,C.val.injEq,C.agg.injEq,C.kp.injEq,C.fn.injEq,eC_inj,str_inj,nI_inj,nU_inj,w8_inj,w32_inj,cl_inj,sl_inj,Value.int.injEq,Value.bool.injEq,true_and,and_true] at h; simp only [out8,h]
theorem ok8 {gl : Nat → C} (hgn : ∀ g,noRef 0 (gl g) = true) (hg0 : gl 0 = .kp (cl wC kc)) (hg2 : gl 2 = .kp (cl wC kc)) (M : Nat) : CxOK (cxP gl M pu8) := CxOK.ext2 (N := 0) (ok7 hgn hg0 hg2 0) nr8 fun q0 => fc108 (ok7 hgn hg0 hg2 0) ((q0.1)) q0.2
theorem hnr8 : ∀ (g : Nat) (xs : List C),noRefs 0 xs = false → pu8 g xs = none := hnr_ext hnr7 nr8
theorem hno8 : ∀ (g : Nat) (xs : List C),refy xs = true → pu8 g xs = none := hno_ext hno7 nr8
theorem hit8 (b : List UInt8) (hc0 : b.length < 35184372088832) : pu8 108 [sl bC .no b] = some (sl bC (.own 1) (b ++ pad b.length)) :=
  (ext_hit _).trans (tabOf_enc ij8 ⟨(b),hc0⟩)
abbrev D9 := {q0 : (BitVec 32) × Nat // ((q0.2) < 32)}
def enc9 (q0 : D9) : List C := [.val (w32 (q0.1.1)),.val (nI (q0.1.2))]
def out9 (q0 : D9) : C := .val (w32 (rr (q0.1.1) (q0.1.2)))
noncomputable def pu9 : Nat → List C → Option C := Sx.ext pu8 110 (tabOf enc9 out9)
theorem nr9 (x : D9) : noRefs 0 (enc9 x) = true := by
  simp only [enc9,noRef_val,noRef_agg,noRef_tup,noRef_kp,noRef_sl,noRefs_cl,noRefs_cons,noRefs_nil,noRefs_app,Bool.and_self,Bool.and_true,noRef_fn,noRef_fnM,noRef_eC,atG_nr79]
theorem ij9 (x y : D9) (h : enc9 x = enc9 y) : out9 x = out9 y := by
  simp only [enc9,List.cons.injEq,C.val.injEq,C.agg.injEq,C.kp.injEq,C.fn.injEq,eC_inj,str_inj,nI_inj,nU_inj,w8_inj,w32_inj,cl_inj,sl_inj,Value.int.injEq,Value.bool.injEq,true_and,and_true] at h; simp only [out9,h]
theorem ok9 {gl : Nat → C} (hgn : ∀ g,noRef 0 (gl g) = true) (hg0 : gl 0 = .kp (cl wC kc)) (hg2 : gl 2 = .kp (cl wC kc)) (M : Nat) : CxOK (cxP gl M pu9) := CxOK.ext2 (N := 0) (ok8 hgn hg0 hg2 0) nr9 fun q0 => fc110 (ok8 hgn hg0 hg2 0) ((q0.1.1)) ((q0.1.2)) q0.2
theorem hnr9 : ∀ (g : Nat) (xs : List C),noRefs 0 xs = false → pu9 g xs = none := hnr_ext hnr8 nr9
theorem hno9 : ∀ (g : Nat) (xs : List C),refy xs = true → pu9 g xs = none := hno_ext hno8 nr9
theorem hit9 (x : BitVec 32) (n : Nat) (hc0 : n < 32) : pu9 110 [.val (w32 x),.val (nI n)] = some (.val (w32 (rr x n))) :=
  (ext_hit _).trans (tabOf_enc ij9 ⟨(x,n),hc0⟩)
abbrev D10 := {q0 : (List UInt8) // ((q0).length = 64)}
def enc10 (q0 : D10) : List C := [sl bC .no (q0.1)]
def out10 (q0 : D10) : C := .agg (cl wC (sched (q0.1) 64))
noncomputable def pu10 : Nat → List C → Option C := Sx.ext pu9 109 (tabOf enc10 out10)
theorem nr10 (x : D10) : noRefs 0 (enc10 x) = true := by
  simp only [enc10,noRef_val,noRef_agg,noRef_tup,noRef_kp,noRef_sl,noRefs_cl,noRefs_cons,noRefs_nil,noRefs_app,Bool.and_self,Bool.and_true,noRef_fn,noRef_fnM,noRef_eC,atG_nr79]
theorem ij10 (x y : D10) (h : enc10 x = enc10 y) : out10 x = out10 y := by
  simp only [enc10,List.cons.injEq,C.val.injEq,C.agg.injEq,C.kp.injEq,C.fn.injEq,eC_inj,str_inj,nI_inj,nU_inj,w8_inj,w32_inj,cl_inj,sl_inj,Value.int.injEq,Value.bool.injEq,true_and,and_true] at h; simp only [out10,h]
theorem ok10 {gl : Nat → C} (hgn : ∀ g,noRef 0 (gl g) = true) (hg0 : gl 0 = .kp (cl wC kc)) (hg2 : gl 2 = .kp (cl wC kc)) (M : Nat) : CxOK (cxP gl M pu10) := CxOK.ext2 (N := 0) (ok9 hgn hg0 hg2 0) nr10 fun q0 => fc109 (ok9 hgn hg0 hg2 0) (by intros; apply hit9 <;> first | assumption | omega) ((q0.1)) q0.2
theorem hnr10 : ∀ (g : Nat) (xs : List C),noRefs 0 xs = false → pu10 g xs = none := hnr_ext hnr9 nr10
theorem hno10 : ∀ (g : Nat) (xs : List C),refy xs = true → pu10 g xs = none := hno_ext hno9 nr10
theorem hit10 (b : List UInt8) (hc0 : b.length = 64) : pu10 109 [sl bC .no b] = some (.agg (cl wC (sched b 64))) :=
  (ext_hit _).trans (tabOf_enc ij10 ⟨(b),hc0⟩)
abbrev D11 := {q0 : (List UInt8) // ((q0).length < 35184372088832)}
def enc11 (q0 : D11) : List C := [sl bC .no (q0.1)]
def out11 (q0 : D11) : C := .agg (cl bC (sha (q0.1)))
noncomputable def pu11 : Nat → List C → Option C := Sx.ext pu10 94 (tabOf enc11 out11)
theorem nr11 (x : D11) : noRefs 0 (enc11 x) = true := by
  simp only [enc11,noRef_val,noRef_agg,noRef_tup,noRef_kp,noRef_sl,noRefs_cl,noRefs_cons,noRefs_nil,noRefs_app,Bool.and_self,Bool.and_true,noRef_fn,noRef_fnM,noRef_eC,atG_nr79]
theorem ij11 (x y : D11) (h : enc11 x = enc11 y) : out11 x = out11 y := by
  simp only [enc11,List.cons.injEq,C.val.injEq,C.agg.injEq,C.kp.injEq,C.fn.injEq,eC_inj,str_inj,nI_inj,nU_inj,w8_inj,w32_inj,cl_inj,sl_inj,Value.int.injEq,Value.bool.injEq,true_and,and_true] at h; simp only [out11,h]
theorem ok11 {gl : Nat → C} (hgn : ∀ g,noRef 0 (gl g) = true) (hg0 : gl 0 = .kp (cl wC kc)) (hg2 : gl 2 = .kp (cl wC kc)) (M : Nat) : CxOK (cxP gl M pu11) := CxOK.ext2 (N := 0) (ok10 hgn hg0 hg2 0) nr11 fun q0 => fc94 (ok10 hgn hg0 hg2 0) hg0 (by intros; (iterate 2 refine (ext_miss (by decide) _).trans ?_); apply hit8 <;> first | assumption | omega) (by intros; apply hit10 <;> first | assumption | omega) (by intros; (iterate 1 refine (ext_miss (by decide) _).trans ?_); apply hit9 <;> first | assumption | omega) ((q0.1)) q0.2
theorem hnr11 : ∀ (g : Nat) (xs : List C),noRefs 0 xs = false → pu11 g xs = none := hnr_ext hnr10 nr11
theorem hno11 : ∀ (g : Nat) (xs : List C),refy xs = true → pu11 g xs = none := hno_ext hno10 nr11
theorem hit11 (b : List UInt8) (hc0 : b.length < 35184372088832) : pu11 94 [sl bC .no b] = some (.agg (cl bC (sha b))) :=
  (ext_hit _).trans (tabOf_enc ij11 ⟨(b),hc0⟩)
abbrev D12 := {q0 : (List UInt8) // ((q0).length < 35184372088832)}
def enc12 (q0 : D12) : List C := [sl bC .no (q0.1)]
def out12 (q0 : D12) : C := .agg (cl bC ((sha (q0.1)).take 16))
noncomputable def pu12 : Nat → List C → Option C := Sx.ext pu11 64 (tabOf enc12 out12)
theorem nr12 (x : D12) : noRefs 0 (enc12 x) = true := by
  simp only [enc12,noRef_val,noRef_agg,noRef_tup,noRef_kp,noRef_sl,noRefs_cl,noRefs_cons,noRefs_nil,noRefs_app,Bool.and_self,Bool.and_true,noRef_fn,noRef_fnM,noRef_eC,atG_nr79]
theorem ij12 (x y : D12) (h : enc12 x = enc12 y) : out12 x = out12 y := by
  simp only [enc12,List.cons.injEq,C.val.injEq,C.agg.injEq,C.kp.injEq,C.fn.injEq,eC_inj,str_inj,nI_inj,nU_inj,w8_inj,w32_inj,cl_inj,sl_inj,Value.int.injEq,Value.bool.injEq,true_and,and_true] at h; simp only [out12,h]
theorem ok12 {gl : Nat → C} (hgn : ∀ g,noRef 0 (gl g) = true) (hg0 : gl 0 = .kp (cl wC kc)) (hg2 : gl 2 = .kp (cl wC kc)) (M : Nat) : CxOK (cxP gl M pu12) := CxOK.ext2 (N := 0) (ok11 hgn hg0 hg2 0) nr12 fun q0 => fc64 (ok11 hgn hg0 hg2 0) (by intros; apply hit11 <;> first | assumption | omega) ((q0.1)) q0.2
theorem hnr12 : ∀ (g : Nat) (xs : List C),noRefs 0 xs = false → pu12 g xs = none := hnr_ext hnr11 nr12
theorem hno12 : ∀ (g : Nat) (xs : List C),refy xs = true → pu12 g xs = none := hno_ext hno11 nr12
theorem hit12 (b : List UInt8) (hc0 : b.length < 35184372088832) : pu12 64 [sl bC .no b] = some (.agg (cl bC ((sha b).take 16))) :=
  (ext_hit _).trans (tabOf_enc ij12 ⟨(b),hc0⟩)
abbrev D13 := {q0 : (List UInt8) // ((q0).length = 16)}
def enc13 (q0 : D13) : List C := [.agg (cl bC (q0.1))]
def out13 (q0 : D13) : C := .val (str (q0.1))
noncomputable def pu13 : Nat → List C → Option C := Sx.ext pu12 84 (tabOf enc13 out13)
theorem nr13 (x : D13) : noRefs 0 (enc13 x) = true := by
  simp only [enc13,noRef_val,noRef_agg,noRef_tup,noRef_kp,noRef_sl,noRefs_cl,noRefs_cons,noRefs_nil,noRefs_app,Bool.and_self,Bool.and_true,noRef_fn,noRef_fnM,noRef_eC,atG_nr79]
theorem ij13 (x y : D13) (h : enc13 x = enc13 y) : out13 x = out13 y := by
  simp only [enc13,List.cons.injEq,C.val.injEq,C.agg.injEq,C.kp.injEq,C.fn.injEq,eC_inj,str_inj,nI_inj,nU_inj,w8_inj,w32_inj,cl_inj,sl_inj,Value.int.injEq,Value.bool.injEq,true_and,and_true] at h; simp only [out13,h]
theorem ok13 {gl : Nat → C} (hgn : ∀ g,noRef 0 (gl g) = true) (hg0 : gl 0 = .kp (cl wC kc)) (hg2 : gl 2 = .kp (cl wC kc)) (M : Nat) : CxOK (cxP gl M pu13) := CxOK.ext2 (N := 0) (ok12 hgn hg0 hg2 0) nr13 fun q0 => fc84 (ok12 hgn hg0 hg2 0) ((q0.1)) q0.2
theorem hnr13 : ∀ (g : Nat) (xs : List C),noRefs 0 xs = false → pu13 g xs = none := hnr_ext hnr12 nr13
theorem hno13 : ∀ (g : Nat) (xs : List C),refy xs = true → pu13 g xs = none := hno_ext hno12 nr13
theorem hit13 (h : List UInt8) (hc0 : h.length = 16) : pu13 84 [.agg (cl bC h)] = some (.val (str h)) :=
  (ext_hit _).trans (tabOf_enc ij13 ⟨(h),hc0⟩)
abbrev D14 := {q0 : Nat // ((q0) ≤ 4611686018427387000)}
def enc14 (q0 : D14) : List C := [.val (nI (q0.1))]
def out14 (q0 : D14) : C := .val (nI (halfT (q0.1)))
noncomputable def pu14 : Nat → List C → Option C := Sx.ext pu13 106 (tabOf enc14 out14)
theorem nr14 (x : D14) : noRefs 0 (enc14 x) = true := by
  simp only [enc14,noRef_val,noRef_agg,noRef_tup,noRef_kp,noRef_sl,noRefs_cl,noRefs_cons,noRefs_nil,noRefs_app,Bool.and_self,Bool.and_true,noRef_fn,noRef_fnM,noRef_eC,atG_nr79]
theorem ij14 (x y : D14) (h : enc14 x = enc14 y) : out14 x = out14 y := by
  simp only [enc14,List.cons.injEq,C.val.injEq,C.agg.injEq,C.kp.injEq,C.fn.injEq,eC_inj,str_inj,nI_inj,nU_inj,w8_inj,w32_inj,cl_inj,sl_inj,Value.int.injEq,Value.bool.injEq,true_and,and_true] at h; simp only [out14,h]
theorem ok14 {gl : Nat → C} (hgn : ∀ g,noRef 0 (gl g) = true) (hg0 : gl 0 = .kp (cl wC kc)) (hg2 : gl 2 = .kp (cl wC kc)) (M : Nat) : CxOK (cxP gl M pu14) := CxOK.ext2 (N := 0) (ok13 hgn hg0 hg2 0) nr14 fun q0 => fc106 (ok13 hgn hg0 hg2 0) ((q0.1)) q0.2
theorem hnr14 : ∀ (g : Nat) (xs : List C),noRefs 0 xs = false → pu14 g xs = none := hnr_ext hnr13 nr14
theorem hno14 : ∀ (g : Nat) (xs : List C),refy xs = true → pu14 g xs = none := hno_ext hno13 nr14
theorem hit14 (n : Nat) (hc0 : n ≤ 4611686018427387000) : pu14 106 [.val (nI n)] = some (.val (nI (halfT n))) :=
  (ext_hit _).trans (tabOf_enc ij14 ⟨(n),hc0⟩)
abbrev D15 := {q0 : (List Leaf) // (LB (q0))}
def enc15 (q0 : D15) : List C := [sl eC .no (q0.1)]
def out15 (q0 : D15) : C := .val (nI (valT (q0.1)))
noncomputable def pu15 : Nat → List C → Option C := Sx.ext pu14 16 (tabOf enc15 out15)
theorem nr15 (x : D15) : noRefs 0 (enc15 x) = true := by
  simp only [enc15,noRef_val,noRef_agg,noRef_tup,noRef_kp,noRef_sl,noRefs_cl,noRefs_cons,noRefs_nil,noRefs_app,Bool.and_self,Bool.and_true,noRef_fn,noRef_fnM,noRef_eC,atG_nr79]
theorem ij15 (x y : D15) (h : enc15 x = enc15 y) : out15 x = out15 y := by
  simp only [enc15,List.cons.injEq,C.val.injEq,C.agg.injEq,C.kp.injEq,C.fn.injEq,eC_inj,str_inj,nI_inj,nU_inj,w8_inj,w32_inj,cl_inj,sl_inj,Value.int.injEq,Value.bool.injEq,true_and,and_true] at h; simp only [out15,h]
theorem ok15 {gl : Nat → C} (hgn : ∀ g,noRef 0 (gl g) = true) (hg0 : gl 0 = .kp (cl wC kc)) (hg2 : gl 2 = .kp (cl wC kc)) (M : Nat) : CxOK (cxP gl M pu15) := CxOK.ext2 (N := 0) (ok14 hgn hg0 hg2 0) nr15 fun q0 => fc16 (ok14 hgn hg0 hg2 0) ((q0.1)) q0.2
theorem hnr15 : ∀ (g : Nat) (xs : List C),noRefs 0 xs = false → pu15 g xs = none := hnr_ext hnr14 nr15
theorem hno15 : ∀ (g : Nat) (xs : List C),refy xs = true → pu15 g xs = none := hno_ext hno14 nr15
theorem hit15 (l : List Leaf) (hc0 : LB l) : pu15 16 [sl eC .no l] = some (.val (nI (valT l))) :=
  (ext_hit _).trans (tabOf_enc ij15 ⟨(l),hc0⟩)
abbrev D16 := {q0 : (List Leaf) // (LB (q0))}
def enc16 (q0 : D16) : List C := [sl eC .no (q0.1)]
def out16 (q0 : D16) : C := .tup [.agg (cl bC (rooT (q0.1)).1),.val (nI (rooT (q0.1)).2)]
noncomputable def pu16 : Nat → List C → Option C := Sx.ext pu15 14 (tabOf enc16 out16)
theorem nr16 (x : D16) : noRefs 0 (enc16 x) = true := by
  simp only [enc16,noRef_val,noRef_agg,noRef_tup,noRef_kp,noRef_sl,noRefs_cl,noRefs_cons,noRefs_nil,noRefs_app,Bool.and_self,Bool.and_true,noRef_fn,noRef_fnM,noRef_eC,atG_nr79]
theorem ij16 (x y : D16) (h : enc16 x = enc16 y) : out16 x = out16 y := by
  simp only [enc16,List.cons.injEq,C.val.injEq,C.agg.injEq,C.kp.injEq,C.fn.injEq,eC_inj,str_inj,nI_inj,nU_inj,w8_inj,w32_inj,cl_inj,sl_inj,Value.int.injEq,Value.bool.injEq,true_and,and_true] at h; simp only [out16,h]
theorem ok16 {gl : Nat → C} (hgn : ∀ g,noRef 0 (gl g) = true) (hg0 : gl 0 = .kp (cl wC kc)) (hg2 : gl 2 = .kp (cl wC kc)) (M : Nat) : CxOK (cxP gl M pu16) := CxOK.ext2 (N := 0) (ok15 hgn hg0 hg2 0) nr16 fun q0 => fc14' (ok15 hgn hg0 hg2 0) hnr15 (by intros; (iterate 8 refine (ext_miss (by decide) _).trans ?_); apply hit7 <;> first | assumption | omega) (by intros; (iterate 3 refine (ext_miss (by decide) _).trans ?_); apply hit12 <;> first | assumption | omega) (by intros; (iterate 2 refine (ext_miss (by decide) _).trans ?_); apply hit13 <;> first | assumption | omega) (by intros; (iterate 1 refine (ext_miss (by decide) _).trans ?_); apply hit14 <;> first | assumption | omega) (by intros; (iterate 10 refine (ext_miss (by decide) _).trans ?_); apply hit5 <;> first | assumption | omega) (by intros; apply hit15 <;> first | assumption | omega) ((q0.1)) q0.2
theorem hnr16 : ∀ (g : Nat) (xs : List C),noRefs 0 xs = false → pu16 g xs = none := hnr_ext hnr15 nr16
theorem hno16 : ∀ (g : Nat) (xs : List C),refy xs = true → pu16 g xs = none := hno_ext hno15 nr16
theorem hit16 (l : List Leaf) (hc0 : LB l) : pu16 14 [sl eC .no l] = some (.tup [.agg (cl bC (rooT l).1),.val (nI (rooT l).2)]) :=
  (ext_hit _).trans (tabOf_enc ij16 ⟨(l),hc0⟩)
abbrev D17 := {q0 : (List Leaf) // ((q0).length ≤ 1000000)}
def enc17 (q0 : D17) : List C := [sl eC .no (q0.1)]
def out17 (q0 : D17) : C := sl eC (.own 2) (q0.1)
noncomputable def pu17 : Nat → List C → Option C := Sx.ext pu16 18 (tabOf enc17 out17)
theorem nr17 (x : D17) : noRefs 0 (enc17 x) = true := by
  simp only [enc17,noRef_val,noRef_agg,noRef_tup,noRef_kp,noRef_sl,noRefs_cl,noRefs_cons,noRefs_nil,noRefs_app,Bool.and_self,Bool.and_true,noRef_fn,noRef_fnM,noRef_eC,atG_nr79]
theorem ij17 (x y : D17) (h : enc17 x = enc17 y) : out17 x = out17 y := by
  simp only [enc17,List.cons.injEq,C.val.injEq,C.agg.injEq,C.kp.injEq,C.fn.injEq,eC_inj,str_inj,nI_inj,nU_inj,w8_inj,w32_inj,cl_inj,sl_inj,Value.int.injEq,Value.bool.injEq,true_and,and_true] at h; simp only [out17,h]
theorem ok17 {gl : Nat → C} (hgn : ∀ g,noRef 0 (gl g) = true) (hg0 : gl 0 = .kp (cl wC kc)) (hg2 : gl 2 = .kp (cl wC kc)) (M : Nat) : CxOK (cxP gl M pu17) := CxOK.ext2 (N := 0) (ok16 hgn hg0 hg2 0) nr17 fun q0 => fc18 (ok16 hgn hg0 hg2 0) ((q0.1)) q0.2
theorem hnr17 : ∀ (g : Nat) (xs : List C),noRefs 0 xs = false → pu17 g xs = none := hnr_ext hnr16 nr17
theorem hno17 : ∀ (g : Nat) (xs : List C),refy xs = true → pu17 g xs = none := hno_ext hno16 nr17
theorem hit17 (l : List Leaf) (hc0 : l.length ≤ 1000000) : pu17 18 [sl eC .no l] = some (sl eC (.own 2) l) :=
  (ext_hit _).trans (tabOf_enc ij17 ⟨(l),hc0⟩)
abbrev D18 := {q0 : Leaf // ((q0).1.length < 9223372036854775808 ∧ (q0).2.length < 9223372036854775808)}
def enc18 (q0 : D18) : List C := [.agg (eC (q0.1))]
def out18 (q0 : D18) : C := .val (.bool (bigE (q0.1)))
noncomputable def pu18 : Nat → List C → Option C := Sx.ext pu17 54 (tabOf enc18 out18)
theorem nr18 (x : D18) : noRefs 0 (enc18 x) = true := by
  simp only [enc18,noRef_val,noRef_agg,noRef_tup,noRef_kp,noRef_sl,noRefs_cl,noRefs_cons,noRefs_nil,noRefs_app,Bool.and_self,Bool.and_true,noRef_fn,noRef_fnM,noRef_eC,atG_nr79]
theorem ij18 (x y : D18) (h : enc18 x = enc18 y) : out18 x = out18 y := by
  simp only [enc18,List.cons.injEq,C.val.injEq,C.agg.injEq,C.kp.injEq,C.fn.injEq,eC_inj,str_inj,nI_inj,nU_inj,w8_inj,w32_inj,cl_inj,sl_inj,Value.int.injEq,Value.bool.injEq,true_and,and_true] at h; simp only [out18,h]
theorem ok18 {gl : Nat → C} (hgn : ∀ g,noRef 0 (gl g) = true) (hg0 : gl 0 = .kp (cl wC kc)) (hg2 : gl 2 = .kp (cl wC kc)) (M : Nat) : CxOK (cxP gl M pu18) := CxOK.ext2 (N := 0) (ok17 hgn hg0 hg2 0) nr18 fun q0 => fc54 (ok17 hgn hg0 hg2 0) ((q0.1)) q0.2
theorem hnr18 : ∀ (g : Nat) (xs : List C),noRefs 0 xs = false → pu18 g xs = none := hnr_ext hnr17 nr18
theorem hno18 : ∀ (g : Nat) (xs : List C),refy xs = true → pu18 g xs = none := hno_ext hno17 nr18
theorem hit18 (x : Leaf) (hc0 : x.1.length < 9223372036854775808 ∧ x.2.length < 9223372036854775808) : pu18 54 [.agg (eC x)] = some (.val (.bool (bigE x))) :=
  (ext_hit _).trans (tabOf_enc ij18 ⟨(x),hc0⟩)
abbrev D19 := {q0 : (List Leaf) // (LB (q0))}
def enc19 (q0 : D19) : List C := [sl eC .no (q0.1),.fn 54 []]
def out19 (q0 : D19) : C := .val (.int .i64 (idxT (q0.1)))
noncomputable def pu19 : Nat → List C → Option C := Sx.ext pu18 87 (tabOf enc19 out19)
theorem nr19 (x : D19) : noRefs 0 (enc19 x) = true := by
  simp only [enc19,noRef_val,noRef_agg,noRef_tup,noRef_kp,noRef_sl,noRefs_cl,noRefs_cons,noRefs_nil,noRefs_app,Bool.and_self,Bool.and_true,noRef_fn,noRef_fnM,noRef_eC,atG_nr79]
theorem ij19 (x y : D19) (h : enc19 x = enc19 y) : out19 x = out19 y := by
  simp only [enc19,List.cons.injEq,C.val.injEq,C.agg.injEq,C.kp.injEq,C.fn.injEq,eC_inj,str_inj,nI_inj,nU_inj,w8_inj,w32_inj,cl_inj,sl_inj,Value.int.injEq,Value.bool.injEq,true_and,and_true] at h; simp only [out19,h]
theorem ok19 {gl : Nat → C} (hgn : ∀ g,noRef 0 (gl g) = true) (hg0 : gl 0 = .kp (cl wC kc)) (hg2 : gl 2 = .kp (cl wC kc)) (M : Nat) : CxOK (cxP gl M pu19) := CxOK.ext2 (N := 0) (ok18 hgn hg0 hg2 0) nr19 fun q0 => fc87 (ok18 hgn hg0 hg2 0) (by intros; apply hit18 <;> first | assumption | omega) ((q0.1)) q0.2
theorem hnr19 : ∀ (g : Nat) (xs : List C),noRefs 0 xs = false → pu19 g xs = none := hnr_ext hnr18 nr19
theorem hno19 : ∀ (g : Nat) (xs : List C),refy xs = true → pu19 g xs = none := hno_ext hno18 nr19
theorem hit19 (l : List Leaf) (hc0 : LB l) : pu19 87 [sl eC .no l,.fn 54 []] = some (.val (.int .i64 (idxT l))) :=
  (ext_hit _).trans (tabOf_enc ij19 ⟨(l),hc0⟩)
abbrev D20 := {q0 : (List Leaf) // (LB (q0))}
def enc20 (q0 : D20) : List C := [sl eC .no (q0.1),.fn 54 []]
def out20 (q0 : D20) : C := .val (.bool ((q0.1).any bigE))
noncomputable def pu20 : Nat → List C → Option C := Sx.ext pu19 53 (tabOf enc20 out20)
theorem nr20 (x : D20) : noRefs 0 (enc20 x) = true := by
  simp only [enc20,noRef_val,noRef_agg,noRef_tup,noRef_kp,noRef_sl,noRefs_cl,noRefs_cons,noRefs_nil,noRefs_app,Bool.and_self,Bool.and_true,noRef_fn,noRef_fnM,noRef_eC,atG_nr79]
theorem ij20 (x y : D20) (h : enc20 x = enc20 y) : out20 x = out20 y := by
  simp only [enc20,List.cons.injEq,C.val.injEq,C.agg.injEq,C.kp.injEq,C.fn.injEq,eC_inj,str_inj,nI_inj,nU_inj,w8_inj,w32_inj,cl_inj,sl_inj,Value.int.injEq,Value.bool.injEq,true_and,and_true] at h; simp only [out20,h]
theorem ok20 {gl : Nat → C} (hgn : ∀ g,noRef 0 (gl g) = true) (hg0 : gl 0 = .kp (cl wC kc)) (hg2 : gl 2 = .kp (cl wC kc)) (M : Nat) : CxOK (cxP gl M pu20) := CxOK.ext2 (N := 0) (ok19 hgn hg0 hg2 0) nr20 fun q0 => fc53 (ok19 hgn hg0 hg2 0) (by intros; apply hit19 <;> first | assumption | omega) ((q0.1)) q0.2
theorem hnr20 : ∀ (g : Nat) (xs : List C),noRefs 0 xs = false → pu20 g xs = none := hnr_ext hnr19 nr20
theorem hno20 : ∀ (g : Nat) (xs : List C),refy xs = true → pu20 g xs = none := hno_ext hno19 nr20
theorem hit20 (l : List Leaf) (hc0 : LB l) : pu20 53 [sl eC .no l,.fn 54 []] = some (.val (.bool (l.any bigE))) :=
  (ext_hit _).trans (tabOf_enc ij20 ⟨(l),hc0⟩)
abbrev D21 := {q0 : (List Leaf) // (LB (q0))}
def enc21 (q0 : D21) : List C := [sl eC .no (q0.1)]
def out21 (q0 : D21) : C := .val (nI (valT (q0.1)))
noncomputable def pu21 : Nat → List C → Option C := Sx.ext pu20 15 (tabOf enc21 out21)
theorem nr21 (x : D21) : noRefs 0 (enc21 x) = true := by
  simp only [enc21,noRef_val,noRef_agg,noRef_tup,noRef_kp,noRef_sl,noRefs_cl,noRefs_cons,noRefs_nil,noRefs_app,Bool.and_self,Bool.and_true,noRef_fn,noRef_fnM,noRef_eC,atG_nr79]
theorem ij21 (x y : D21) (h : enc21 x = enc21 y) : out21 x = out21 y := by
  simp only [enc21,List.cons.injEq,C.val.injEq,C.agg.injEq,C.kp.injEq,C.fn.injEq,eC_inj,str_inj,nI_inj,nU_inj,w8_inj,w32_inj,cl_inj,sl_inj,Value.int.injEq,Value.bool.injEq,true_and,and_true] at h; simp only [out21,h]
theorem ok21 {gl : Nat → C} (hgn : ∀ g,noRef 0 (gl g) = true) (hg0 : gl 0 = .kp (cl wC kc)) (hg2 : gl 2 = .kp (cl wC kc)) (M : Nat) : CxOK (cxP gl M pu21) := CxOK.ext2 (N := 0) (ok20 hgn hg0 hg2 0) nr21 fun q0 => fc15 (ok20 hgn hg0 hg2 0) (by intros; apply hit20 <;> first | assumption | omega) ((q0.1)) q0.2
theorem hnr21 : ∀ (g : Nat) (xs : List C),noRefs 0 xs = false → pu21 g xs = none := hnr_ext hnr20 nr21
theorem hno21 : ∀ (g : Nat) (xs : List C),refy xs = true → pu21 g xs = none := hno_ext hno20 nr21
theorem hit21 (l : List Leaf) (hc0 : LB l) : pu21 15 [sl eC .no l] = some (.val (nI (valT l))) :=
  (ext_hit _).trans (tabOf_enc ij21 ⟨(l),hc0⟩)
abbrev D22 := {q0 : Unit // True}
def enc22 (q0 : D22) : List C := ([] : List C)
def out22 (q0 : D22) : C := .agg F0.cells
noncomputable def pu22 : Nat → List C → Option C := Sx.ext pu21 103 (tabOf enc22 out22)
theorem nr22 (x : D22) : noRefs 0 (enc22 x) = true := by
  simp only [enc22,noRef_val,noRef_agg,noRef_tup,noRef_kp,noRef_sl,noRefs_cl,noRefs_cons,noRefs_nil,noRefs_app,Bool.and_self,Bool.and_true,noRef_fn,noRef_fnM,noRef_eC,atG_nr79]
theorem ij22 (x y : D22) (h : enc22 x = enc22 y) : out22 x = out22 y := by
  rfl
theorem ok22 {gl : Nat → C} (hgn : ∀ g,noRef 0 (gl g) = true) (hg0 : gl 0 = .kp (cl wC kc)) (hg2 : gl 2 = .kp (cl wC kc)) (M : Nat) : CxOK (cxP gl M pu22) := CxOK.ext2 (N := 0) (ok21 hgn hg0 hg2 0) nr22 fun q0 => fc103 (ok21 hgn hg0 hg2 0)
theorem hnr22 : ∀ (g : Nat) (xs : List C),noRefs 0 xs = false → pu22 g xs = none := hnr_ext hnr21 nr22
theorem hno22 : ∀ (g : Nat) (xs : List C),refy xs = true → pu22 g xs = none := hno_ext hno21 nr22
theorem hit22 : pu22 103 ([] : List C) = some (.agg F0.cells) :=
  (ext_hit _).trans (tabOf_enc ij22 ⟨(),trivial⟩)
abbrev D23 := {q0 : (BitVec 32) × Int // True}
def enc23 (q0 : D23) : List C := [.val (w32 (q0.1.1)),.val (.int .i64 (q0.1.2))]
def out23 (q0 : D23) : C := .val (w32 (rotl (q0.1.1) (((q0.1.2) % 18446744073709551616).toNat % 32)))
noncomputable def pu23 : Nat → List C → Option C := Sx.ext pu22 117 (tabOf enc23 out23)
theorem nr23 (x : D23) : noRefs 0 (enc23 x) = true := by
  simp only [enc23,noRef_val,noRef_agg,noRef_tup,noRef_kp,noRef_sl,noRefs_cl,noRefs_cons,noRefs_nil,noRefs_app,Bool.and_self,Bool.and_true,noRef_fn,noRef_fnM,noRef_eC,atG_nr79]
theorem ij23 (x y : D23) (h : enc23 x = enc23 y) : out23 x = out23 y := by
  simp only [enc23,List.cons.injEq,C.val.injEq,C.agg.injEq,C.kp.injEq,C.fn.injEq,eC_inj,str_inj,nI_inj,nU_inj,w8_inj,w32_inj,cl_inj,sl_inj,Value.int.injEq,Value.bool.injEq,true_and,and_true] at h; simp only [out23,h]
theorem ok23 {gl : Nat → C} (hgn : ∀ g,noRef 0 (gl g) = true) (hg0 : gl 0 = .kp (cl wC kc)) (hg2 : gl 2 = .kp (cl wC kc)) (M : Nat) : CxOK (cxP gl M pu23) := CxOK.ext2 (N := 0) (ok22 hgn hg0 hg2 0) nr23 fun q0 => fc117 (ok22 hgn hg0 hg2 0) ((q0.1.1)) ((q0.1.2))
theorem hnr23 : ∀ (g : Nat) (xs : List C),noRefs 0 xs = false → pu23 g xs = none := hnr_ext hnr22 nr23
theorem hno23 : ∀ (g : Nat) (xs : List C),refy xs = true → pu23 g xs = none := hno_ext hno22 nr23
theorem hit23 (x : BitVec 32) (k : Int) : pu23 117 [.val (w32 x),.val (.int .i64 k)] = some (.val (w32 (rotl x ((k % 18446744073709551616).toNat % 32)))) :=
  (ext_hit _).trans (tabOf_enc ij23 ⟨(x,k),trivial⟩)
abbrev D24 := {q0 : (BitVec 32) × Nat × Nat × Nat // (0 < (q0.2.1) ∧ (q0.2.1) < 32) ∧ (0 < (q0.2.2.1) ∧ (q0.2.2.1) < 32) ∧ (0 < (q0.2.2.2) ∧ (q0.2.2.2) < 32)}
def enc24 (q0 : D24) : List C := [.val (w32 (q0.1.1)),.val (nI (q0.1.2.1)),.val (nI (q0.1.2.2.1)),.val (nI (q0.1.2.2.2))]
def out24 (q0 : D24) : C := .val (w32 (rr (q0.1.1) (q0.1.2.1) ^^^ rr (q0.1.1) (q0.1.2.2.1) ^^^ rr (q0.1.1) (q0.1.2.2.2)))
noncomputable def pu24 : Nat → List C → Option C := Sx.ext pu23 116 (tabOf enc24 out24)
theorem nr24 (x : D24) : noRefs 0 (enc24 x) = true := by
  simp only [enc24,noRef_val,noRef_agg,noRef_tup,noRef_kp,noRef_sl,noRefs_cl,noRefs_cons,noRefs_nil,noRefs_app,Bool.and_self,Bool.and_true,noRef_fn,noRef_fnM,noRef_eC,atG_nr79]
theorem ij24 (x y : D24) (h : enc24 x = enc24 y) : out24 x = out24 y := by
  simp only [enc24,List.cons.injEq,C.val.injEq,C.agg.injEq,C.kp.injEq,C.fn.injEq,eC_inj,str_inj,nI_inj,nU_inj,w8_inj,w32_inj,cl_inj,sl_inj,Value.int.injEq,Value.bool.injEq,true_and,and_true] at h; simp only [out24,h]
theorem ok24 {gl : Nat → C} (hgn : ∀ g,noRef 0 (gl g) = true) (hg0 : gl 0 = .kp (cl wC kc)) (hg2 : gl 2 = .kp (cl wC kc)) (M : Nat) : CxOK (cxP gl M pu24) := CxOK.ext2 (N := 0) (ok23 hgn hg0 hg2 0) nr24 fun q0 => fc116 (ok23 hgn hg0 hg2 0) (by intros; apply hit23 <;> first | assumption | omega) ((q0.1.1)) ((q0.1.2.1)) ((q0.1.2.2.1)) ((q0.1.2.2.2)) q0.2.1 q0.2.2.1 q0.2.2.2
theorem hnr24 : ∀ (g : Nat) (xs : List C),noRefs 0 xs = false → pu24 g xs = none := hnr_ext hnr23 nr24
theorem hno24 : ∀ (g : Nat) (xs : List C),refy xs = true → pu24 g xs = none := hno_ext hno23 nr24
theorem hit24 (x : BitVec 32) (i : Nat) (j : Nat) (k : Nat) (hc0 : 0 < i ∧ i < 32) (hc1 : 0 < j ∧ j < 32) (hc2 : 0 < k ∧ k < 32) : pu24 116 [.val (w32 x),.val (nI i),.val (nI j),.val (nI k)] = some (.val (w32 (rr x i ^^^ rr x j ^^^ rr x k))) :=
  (ext_hit _).trans (tabOf_enc ij24 ⟨(x,i,j,k),⟨hc0,hc1,hc2⟩⟩)
abbrev D25 := {q0 : (List UInt8) // ((q0).length = 64)}
def enc25 (q0 : D25) : List C := [sl bC .no (q0.1)]
def out25 (q0 : D25) : C := .agg (cl wC (sched (q0.1) 64))
noncomputable def pu25 : Nat → List C → Option C := Sx.ext pu24 115 (tabOf enc25 out25)
theorem nr25 (x : D25) : noRefs 0 (enc25 x) = true := by
  simp only [enc25,noRef_val,noRef_agg,noRef_tup,noRef_kp,noRef_sl,noRefs_cl,noRefs_cons,noRefs_nil,noRefs_app,Bool.and_self,Bool.and_true,noRef_fn,noRef_fnM,noRef_eC,atG_nr79]
theorem ij25 (x y : D25) (h : enc25 x = enc25 y) : out25 x = out25 y := by
  simp only [enc25,List.cons.injEq,C.val.injEq,C.agg.injEq,C.kp.injEq,C.fn.injEq,eC_inj,str_inj,nI_inj,nU_inj,w8_inj,w32_inj,cl_inj,sl_inj,Value.int.injEq,Value.bool.injEq,true_and,and_true] at h; simp only [out25,h]
theorem ok25 {gl : Nat → C} (hgn : ∀ g,noRef 0 (gl g) = true) (hg0 : gl 0 = .kp (cl wC kc)) (hg2 : gl 2 = .kp (cl wC kc)) (M : Nat) : CxOK (cxP gl M pu25) := CxOK.ext2 (N := 0) (ok24 hgn hg0 hg2 0) nr25 fun q0 => fc115 (ok24 hgn hg0 hg2 0) (by intros; (iterate 1 refine (ext_miss (by decide) _).trans ?_); apply hit23 <;> first | assumption | omega) ((q0.1)) q0.2
theorem hnr25 : ∀ (g : Nat) (xs : List C),noRefs 0 xs = false → pu25 g xs = none := hnr_ext hnr24 nr25
theorem hno25 : ∀ (g : Nat) (xs : List C),refy xs = true → pu25 g xs = none := hno_ext hno24 nr25
theorem hit25 (b : List UInt8) (hc0 : b.length = 64) : pu25 115 [sl bC .no b] = some (.agg (cl wC (sched b 64))) :=
  (ext_hit _).trans (tabOf_enc ij25 ⟨(b),hc0⟩)
abbrev D26 := {q0 : S8 × (List UInt8) // ((q0.2).length = 64)}
def enc26 (q0 : D26) : List C := [.agg (cl wC (q0.1.1).l),sl bC .no (q0.1.2)]
def out26 (q0 : D26) : C := .agg (cl wC (comp (q0.1.1) (q0.1.2)).l)
noncomputable def pu26 : Nat → List C → Option C := Sx.ext pu25 113 (tabOf enc26 out26)
theorem nr26 (x : D26) : noRefs 0 (enc26 x) = true := by
  simp only [enc26,noRef_val,noRef_agg,noRef_tup,noRef_kp,noRef_sl,noRefs_cl,noRefs_cons,noRefs_nil,noRefs_app,Bool.and_self,Bool.and_true,noRef_fn,noRef_fnM,noRef_eC,atG_nr79]
theorem ij26 (x y : D26) (h : enc26 x = enc26 y) : out26 x = out26 y := by
  simp only [enc26,List.cons.injEq,C.agg.injEq,cl_inj,sl_inj,S8_inj,and_true] at h; simp only [out26,h]
theorem ok26 {gl : Nat → C} (hgn : ∀ g,noRef 0 (gl g) = true) (hg0 : gl 0 = .kp (cl wC kc)) (hg2 : gl 2 = .kp (cl wC kc)) (M : Nat) : CxOK (cxP gl M pu26) := CxOK.ext2 (N := 0) (ok25 hgn hg0 hg2 0) nr26 fun q0 => fc113 (ok25 hgn hg0 hg2 0) hg2 (by intros; (iterate 1 refine (ext_miss (by decide) _).trans ?_); apply hit24 <;> first | assumption | omega) (by intros; apply hit25 <;> first | assumption | omega) ((q0.1.1)) ((q0.1.2)) q0.2
theorem hnr26 : ∀ (g : Nat) (xs : List C),noRefs 0 xs = false → pu26 g xs = none := hnr_ext hnr25 nr26
theorem hno26 : ∀ (g : Nat) (xs : List C),refy xs = true → pu26 g xs = none := hno_ext hno25 nr26
theorem hit26 (s : S8) (b : List UInt8) (hc0 : b.length = 64) : pu26 113 [.agg (cl wC s.l),sl bC .no b] = some (.agg (cl wC (comp s b).l)) :=
  (ext_hit _).trans (tabOf_enc ij26 ⟨(s,b),hc0⟩)
abbrev D27 := {q0 : S8 × (List UInt8) × Nat × (List UInt8) // ((q0.2.1).length = 64) ∧ ((q0.2.2.1) + (q0.2.2.2).length < 1152921504606846976)}
def enc27 (q0 : D27) : List C := [.agg (cl wC (q0.1.1).l ++ (cl bC (q0.1.2.1) ++ [.val (nU (q0.1.2.2.1))])),.val (str (q0.1.2.2.2))]
def out27 (q0 : D27) : C := .agg (feed ⟨(q0.1.1),(q0.1.2.1),(q0.1.2.2.1)⟩ (q0.1.2.2.2)).cells
noncomputable def pu27 : Nat → List C → Option C := Sx.ext pu26 104 (tabOf enc27 out27)
theorem nr27 (x : D27) : noRefs 0 (enc27 x) = true := by
  simp only [enc27,noRef_val,noRef_agg,noRef_tup,noRef_kp,noRef_sl,noRefs_cl,noRefs_cons,noRefs_nil,noRefs_app,Bool.and_self,Bool.and_true,noRef_fn,noRef_fnM,noRef_eC,atG_nr79]
theorem ij27 (x y : D27) (h : enc27 x = enc27 y) : out27 x = out27 y := by
  exact feed_out x.1.1 y.1.1 x.1.2.1 y.1.2.1 x.1.2.2.1 y.1.2.2.1 x.1.2.2.2 y.1.2.2.2 x.2.1 y.2.1 h
theorem ok27 {gl : Nat → C} (hgn : ∀ g,noRef 0 (gl g) = true) (hg0 : gl 0 = .kp (cl wC kc)) (hg2 : gl 2 = .kp (cl wC kc)) (M : Nat) : CxOK (cxP gl M pu27) := CxOK.ext2 (N := 0) (ok26 hgn hg0 hg2 0) nr27 fun q0 => fc104 (ok26 hgn hg0 hg2 0) (by intros; apply hit26 <;> first | assumption | omega) hno26 (⟨(q0.1.1),(q0.1.2.1),(q0.1.2.2.1)⟩) ((q0.1.2.2.2)) q0.2.1 q0.2.2
theorem hnr27 : ∀ (g : Nat) (xs : List C),noRefs 0 xs = false → pu27 g xs = none := hnr_ext hnr26 nr27
theorem hit27 (s : S8) (blk : List UInt8) (n : Nat) (t : List UInt8) (hc0 : blk.length = 64) (hc1 : n + t.length < 1152921504606846976) : pu27 104 [.agg (cl wC s.l ++ (cl bC blk ++ [.val (nU n)])),.val (str t)] = some (.agg (feed ⟨s,blk,n⟩ t).cells) :=
  (ext_hit _).trans (tabOf_enc ij27 ⟨(s,blk,n,t),⟨hc0,hc1⟩⟩)
abbrev D28 := {q0 : S8 × (List UInt8) × Nat // ((q0.2.1).length = 64) ∧ ((q0.2.2) < 576460752303423488)}
def enc28 (q0 : D28) : List C := [.agg (cl wC (q0.1.1).l ++ (cl bC (q0.1.2.1) ++ [.val (nU (q0.1.2.2))]))]
def out28 (q0 : D28) : C := .agg (cl bC (sumF ⟨(q0.1.1),(q0.1.2.1),(q0.1.2.2)⟩))
noncomputable def pu28 : Nat → List C → Option C := Sx.ext pu27 105 (tabOf enc28 out28)
theorem nr28 (x : D28) : noRefs 0 (enc28 x) = true := by
  simp only [enc28,noRef_val,noRef_agg,noRef_tup,noRef_kp,noRef_sl,noRefs_cl,noRefs_cons,noRefs_nil,noRefs_app,Bool.and_self,Bool.and_true,noRef_fn,noRef_fnM,noRef_eC,atG_nr79]
theorem ij28 (x y : D28) (h : enc28 x = enc28 y) : out28 x = out28 y := by
  exact sum_out x.1.1 y.1.1 x.1.2.1 y.1.2.1 x.1.2.2 y.1.2.2 x.2.1 y.2.1 h
theorem ok28 {gl : Nat → C} (hgn : ∀ g,noRef 0 (gl g) = true) (hg0 : gl 0 = .kp (cl wC kc)) (hg2 : gl 2 = .kp (cl wC kc)) (M : Nat) : CxOK (cxP gl M pu28) := CxOK.ext2 (N := 0) (ok27 hgn hg0 hg2 0) nr28 fun q0 => fc105 (ok27 hgn hg0 hg2 0) (by intros; apply hit27 <;> first | assumption | omega) (⟨(q0.1.1),(q0.1.2.1),(q0.1.2.2)⟩) q0.2.1 q0.2.2
theorem hnr28 : ∀ (g : Nat) (xs : List C),noRefs 0 xs = false → pu28 g xs = none := hnr_ext hnr27 nr28
theorem hit28 (s : S8) (blk : List UInt8) (n : Nat) (hc0 : blk.length = 64) (hc1 : n < 576460752303423488) : pu28 105 [.agg (cl wC s.l ++ (cl bC blk ++ [.val (nU n)]))] = some (.agg (cl bC (sumF ⟨s,blk,n⟩))) :=
  (ext_hit _).trans (tabOf_enc ij28 ⟨(s,blk,n),⟨hc0,hc1⟩⟩)
abbrev D29 := {q0 : Int // (-9223372036854775808 ≤ (q0) ∧ (q0) ≤ 9223372036854775807)}
def enc29 (q0 : D29) : List C := [.val (.int .i64 (q0.1))]
def out29 (q0 : D29) : C := sl bC (.own 1) (wint (q0.1))
noncomputable def pu29 : Nat → List C → Option C := Sx.ext pu28 39 (tabOf enc29 out29)
theorem nr29 (x : D29) : noRefs 0 (enc29 x) = true := by
  simp only [enc29,noRef_val,noRef_agg,noRef_tup,noRef_kp,noRef_sl,noRefs_cl,noRefs_cons,noRefs_nil,noRefs_app,Bool.and_self,Bool.and_true,noRef_fn,noRef_fnM,noRef_eC,atG_nr79]
theorem ij29 (x y : D29) (h : enc29 x = enc29 y) : out29 x = out29 y := by
  simp only [enc29,List.cons.injEq,C.val.injEq,C.agg.injEq,C.kp.injEq,C.fn.injEq,eC_inj,str_inj,nI_inj,nU_inj,w8_inj,w32_inj,cl_inj,sl_inj,Value.int.injEq,Value.bool.injEq,true_and,and_true] at h; simp only [out29,h]
theorem ok29 {gl : Nat → C} (hgn : ∀ g,noRef 0 (gl g) = true) (hg0 : gl 0 = .kp (cl wC kc)) (hg2 : gl 2 = .kp (cl wC kc)) (M : Nat) : CxOK (cxP gl M pu29) := CxOK.ext2 (N := 0) (ok28 hgn hg0 hg2 0) nr29 fun q0 => fc39 (ok28 hgn hg0 hg2 0) ((q0.1)) q0.2
theorem hnr29 : ∀ (g : Nat) (xs : List C),noRefs 0 xs = false → pu29 g xs = none := hnr_ext hnr28 nr29
theorem hit29 (n : Int) (hc0 : -9223372036854775808 ≤ n ∧ n ≤ 9223372036854775807) : pu29 39 [.val (.int .i64 n)] = some (sl bC (.own 1) (wint n)) :=
  (ext_hit _).trans (tabOf_enc ij29 ⟨(n),hc0⟩)
abbrev D30 := {q0 : (List UInt8) // ((q0).length < 70368744177664)}
def enc30 (q0 : D30) : List C := [.val (str (q0.1))]
def out30 (q0 : D30) : C := sl bC (.own 1) (wb (q0.1))
noncomputable def pu30 : Nat → List C → Option C := Sx.ext pu29 74 (tabOf enc30 out30)
theorem nr30 (x : D30) : noRefs 0 (enc30 x) = true := by
  simp only [enc30,noRef_val,noRef_agg,noRef_tup,noRef_kp,noRef_sl,noRefs_cl,noRefs_cons,noRefs_nil,noRefs_app,Bool.and_self,Bool.and_true,noRef_fn,noRef_fnM,noRef_eC,atG_nr79]
theorem ij30 (x y : D30) (h : enc30 x = enc30 y) : out30 x = out30 y := by
  simp only [enc30,List.cons.injEq,C.val.injEq,C.agg.injEq,C.kp.injEq,C.fn.injEq,eC_inj,str_inj,nI_inj,nU_inj,w8_inj,w32_inj,cl_inj,sl_inj,Value.int.injEq,Value.bool.injEq,true_and,and_true] at h; simp only [out30,h]
theorem ok30 {gl : Nat → C} (hgn : ∀ g,noRef 0 (gl g) = true) (hg0 : gl 0 = .kp (cl wC kc)) (hg2 : gl 2 = .kp (cl wC kc)) (M : Nat) : CxOK (cxP gl M pu30) := CxOK.ext2 (N := 0) (ok29 hgn hg0 hg2 0) nr30 fun q0 => fc74 (ok29 hgn hg0 hg2 0) (by intros; rename_i m hm; exact (hit29 (m : Int) (by omega)).trans (by rw [wint_pos])) ((q0.1)) q0.2
theorem hnr30 : ∀ (g : Nat) (xs : List C),noRefs 0 xs = false → pu30 g xs = none := hnr_ext hnr29 nr30
theorem hit30 (s : List UInt8) (hc0 : s.length < 70368744177664) : pu30 74 [.val (str s)] = some (sl bC (.own 1) (wb s)) :=
  (ext_hit _).trans (tabOf_enc ij30 ⟨(s),hc0⟩)
abbrev D31 := {q0 : Int × (List (List UInt8)) // ((inp (q0.1) (q0.2)).length < 1099511627776)}
def enc31 (q0 : D31) : List C := [.val (.int .i64 (q0.1.1)),sl sC .no (q0.1.2)]
def out31 (q0 : D31) : C := .agg (cl bC ((sha (inp (q0.1.1) (q0.1.2))).take 16))
noncomputable def pu31 : Nat → List C → Option C := Sx.ext pu30 78 (tabOf enc31 out31)
theorem nr31 (x : D31) : noRefs 0 (enc31 x) = true := by
  simp only [enc31,noRef_val,noRef_agg,noRef_tup,noRef_kp,noRef_sl,noRefs_cl,noRefs_cons,noRefs_nil,noRefs_app,Bool.and_self,Bool.and_true,noRef_fn,noRef_fnM,noRef_eC,atG_nr79]
theorem ij31 (x y : D31) (h : enc31 x = enc31 y) : out31 x = out31 y := by
  simp only [enc31,List.cons.injEq,C.val.injEq,C.agg.injEq,C.kp.injEq,C.fn.injEq,eC_inj,str_inj,nI_inj,nU_inj,w8_inj,w32_inj,cl_inj,sl_inj,Value.int.injEq,Value.bool.injEq,true_and,and_true] at h; simp only [out31,h]
theorem ok31 {gl : Nat → C} (hgn : ∀ g,noRef 0 (gl g) = true) (hg0 : gl 0 = .kp (cl wC kc)) (hg2 : gl 2 = .kp (cl wC kc)) (M : Nat) : CxOK (cxP gl M pu31) := CxOK.ext2 (N := 0) (ok30 hgn hg0 hg2 0) nr31 fun q0 => fc78 (ok30 hgn hg0 hg2 0) (by intros; (iterate 8 refine (ext_miss (by decide) _).trans ?_); apply hit22 <;> first | assumption | omega) (by intros; (iterate 3 refine (ext_miss (by decide) _).trans ?_); apply hit27 <;> first | assumption | omega) (by intros; (iterate 2 refine (ext_miss (by decide) _).trans ?_); apply hit28 <;> first | assumption | omega) (by intros; apply hit30 <;> first | assumption | omega) ((q0.1.1)) ((q0.1.2)) q0.2
theorem hnr31 : ∀ (g : Nat) (xs : List C),noRefs 0 xs = false → pu31 g xs = none := hnr_ext hnr30 nr31
theorem hit31 (tag : Int) (parts : List (List UInt8)) (hc0 : (inp tag parts).length < 1099511627776) : pu31 78 [.val (.int .i64 tag),sl sC .no parts] = some (.agg (cl bC ((sha (inp tag parts)).take 16))) :=
  (ext_hit _).trans (tabOf_enc ij31 ⟨(tag,parts),hc0⟩)
abbrev D32 := {q0 : Nat × (List UInt8) // ((q0.1) ≤ 4096) ∧ ((q0.2).length = 16)}
def enc32 (q0 : D32) : List C := [.val (nI (q0.1.1)),.agg (cl bC (q0.1.2))]
def out32 (q0 : D32) : C := .agg (cl bC (rotT (q0.1.1) (q0.1.2)))
noncomputable def pu32 : Nat → List C → Option C := Sx.ext pu31 50 (tabOf enc32 out32)
theorem nr32 (x : D32) : noRefs 0 (enc32 x) = true := by
  simp only [enc32,noRef_val,noRef_agg,noRef_tup,noRef_kp,noRef_sl,noRefs_cl,noRefs_cons,noRefs_nil,noRefs_app,Bool.and_self,Bool.and_true,noRef_fn,noRef_fnM,noRef_eC,atG_nr79]
theorem ij32 (x y : D32) (h : enc32 x = enc32 y) : out32 x = out32 y := by
  simp only [enc32,List.cons.injEq,C.val.injEq,C.agg.injEq,C.kp.injEq,C.fn.injEq,eC_inj,str_inj,nI_inj,nU_inj,w8_inj,w32_inj,cl_inj,sl_inj,Value.int.injEq,Value.bool.injEq,true_and,and_true] at h; simp only [out32,h]
theorem ok32 {gl : Nat → C} (hgn : ∀ g,noRef 0 (gl g) = true) (hg0 : gl 0 = .kp (cl wC kc)) (hg2 : gl 2 = .kp (cl wC kc)) (M : Nat) : CxOK (cxP gl M pu32) := CxOK.ext2 (N := 0) (ok31 hgn hg0 hg2 0) nr32 fun q0 => fc50 (ok31 hgn hg0 hg2 0) (by intros; apply hit31 <;> first | assumption | omega) (by intros; (iterate 2 refine (ext_miss (by decide) _).trans ?_); apply hit29 <;> first | assumption | omega) ((q0.1.1)) ((q0.1.2)) q0.2.1 q0.2.2
theorem hnr32 : ∀ (g : Nat) (xs : List C),noRefs 0 xs = false → pu32 g xs = none := hnr_ext hnr31 nr32
theorem hit32 (n : Nat) (d : List UInt8) (hc0 : n ≤ 4096) (hc1 : d.length = 16) : pu32 50 [.val (nI n),.agg (cl bC d)] = some (.agg (cl bC (rotT n d))) :=
  (ext_hit _).trans (tabOf_enc ij32 ⟨(n,d),⟨hc0,hc1⟩⟩)
abbrev D33 := {q0 : Leaf // ((q0).1.length ≤ 65536 ∧ (q0).2.length ≤ 65536)}
def enc33 (q0 : D33) : List C := [.agg (eC (q0.1))]
def out33 (q0 : D33) : C := .agg (cl bC (lefT (q0.1)))
noncomputable def pu33 : Nat → List C → Option C := Sx.ext pu32 80 (tabOf enc33 out33)
theorem nr33 (x : D33) : noRefs 0 (enc33 x) = true := by
  simp only [enc33,noRef_val,noRef_agg,noRef_tup,noRef_kp,noRef_sl,noRefs_cl,noRefs_cons,noRefs_nil,noRefs_app,Bool.and_self,Bool.and_true,noRef_fn,noRef_fnM,noRef_eC,atG_nr79]
theorem ij33 (x y : D33) (h : enc33 x = enc33 y) : out33 x = out33 y := by
  simp only [enc33,List.cons.injEq,C.val.injEq,C.agg.injEq,C.kp.injEq,C.fn.injEq,eC_inj,str_inj,nI_inj,nU_inj,w8_inj,w32_inj,cl_inj,sl_inj,Value.int.injEq,Value.bool.injEq,true_and,and_true] at h; simp only [out33,h]
theorem ok33 {gl : Nat → C} (hgn : ∀ g,noRef 0 (gl g) = true) (hg0 : gl 0 = .kp (cl wC kc)) (hg2 : gl 2 = .kp (cl wC kc)) (M : Nat) : CxOK (cxP gl M pu33) := CxOK.ext2 (N := 0) (ok32 hgn hg0 hg2 0) nr33 fun q0 => fc80 (ok32 hgn hg0 hg2 0) (by intros; (iterate 1 refine (ext_miss (by decide) _).trans ?_); apply hit31 <;> first | assumption | omega) ((q0.1)) q0.2
theorem hnr33 : ∀ (g : Nat) (xs : List C),noRefs 0 xs = false → pu33 g xs = none := hnr_ext hnr32 nr33
theorem hit33 (x : Leaf) (hc0 : x.1.length ≤ 65536 ∧ x.2.length ≤ 65536) : pu33 80 [.agg (eC x)] = some (.agg (cl bC (lefT x))) :=
  (ext_hit _).trans (tabOf_enc ij33 ⟨(x),hc0⟩)
abbrev D34 := {q0 : Nat × Nat // ((q0.1) ≤ (q0.2) ∧ (q0.2) ≤ 4611686018427387000)}
def enc34 (q0 : D34) : List C := [.val (nI (q0.1.1)),.val (nI (q0.1.2))]
def out34 (q0 : D34) : C := .val (nI ((q0.1.1) + halfT ((q0.1.2) - (q0.1.1))))
noncomputable def pu34 : Nat → List C → Option C := Sx.ext pu33 81 (tabOf enc34 out34)
theorem nr34 (x : D34) : noRefs 0 (enc34 x) = true := by
  simp only [enc34,noRef_val,noRef_agg,noRef_tup,noRef_kp,noRef_sl,noRefs_cl,noRefs_cons,noRefs_nil,noRefs_app,Bool.and_self,Bool.and_true,noRef_fn,noRef_fnM,noRef_eC,atG_nr79]
theorem ij34 (x y : D34) (h : enc34 x = enc34 y) : out34 x = out34 y := by
  simp only [enc34,List.cons.injEq,C.val.injEq,C.agg.injEq,C.kp.injEq,C.fn.injEq,eC_inj,str_inj,nI_inj,nU_inj,w8_inj,w32_inj,cl_inj,sl_inj,Value.int.injEq,Value.bool.injEq,true_and,and_true] at h; simp only [out34,h]
theorem ok34 {gl : Nat → C} (hgn : ∀ g,noRef 0 (gl g) = true) (hg0 : gl 0 = .kp (cl wC kc)) (hg2 : gl 2 = .kp (cl wC kc)) (M : Nat) : CxOK (cxP gl M pu34) := CxOK.ext2 (N := 0) (ok33 hgn hg0 hg2 0) nr34 fun q0 => fc81 (ok33 hgn hg0 hg2 0) ((q0.1.1)) ((q0.1.2)) q0.2
theorem hnr34 : ∀ (g : Nat) (xs : List C),noRefs 0 xs = false → pu34 g xs = none := hnr_ext hnr33 nr34
theorem hit34 (x : Nat) (y : Nat) (hc0 : x ≤ y ∧ y ≤ 4611686018427387000) : pu34 81 [.val (nI x),.val (nI y)] = some (.val (nI (x + halfT (y - x)))) :=
  (ext_hit _).trans (tabOf_enc ij34 ⟨(x,y),hc0⟩)
abbrev D35 := {q0 : (List UInt8) × (List UInt8) // ((q0.1).length = 16) ∧ ((q0.2).length = 16)}
def enc35 (q0 : D35) : List C := [.agg (cl bC (q0.1.1)),.agg (cl bC (q0.1.2))]
def out35 (q0 : D35) : C := .agg (cl bC (nodT (q0.1.1) (q0.1.2)))
noncomputable def pu35 : Nat → List C → Option C := Sx.ext pu34 82 (tabOf enc35 out35)
theorem nr35 (x : D35) : noRefs 0 (enc35 x) = true := by
  simp only [enc35,noRef_val,noRef_agg,noRef_tup,noRef_kp,noRef_sl,noRefs_cl,noRefs_cons,noRefs_nil,noRefs_app,Bool.and_self,Bool.and_true,noRef_fn,noRef_fnM,noRef_eC,atG_nr79]
theorem ij35 (x y : D35) (h : enc35 x = enc35 y) : out35 x = out35 y := by
  simp only [enc35,List.cons.injEq,C.val.injEq,C.agg.injEq,C.kp.injEq,C.fn.injEq,eC_inj,str_inj,nI_inj,nU_inj,w8_inj,w32_inj,cl_inj,sl_inj,Value.int.injEq,Value.bool.injEq,true_and,and_true] at h; simp only [out35,h]
theorem ok35 {gl : Nat → C} (hgn : ∀ g,noRef 0 (gl g) = true) (hg0 : gl 0 = .kp (cl wC kc)) (hg2 : gl 2 = .kp (cl wC kc)) (M : Nat) : CxOK (cxP gl M pu35) := CxOK.ext2 (N := 0) (ok34 hgn hg0 hg2 0) nr35 fun q0 => fc82 (ok34 hgn hg0 hg2 0) (by intros; (iterate 3 refine (ext_miss (by decide) _).trans ?_); apply hit31 <;> first | assumption | omega) ((q0.1.1)) ((q0.1.2)) q0.2.1 q0.2.2
theorem hnr35 : ∀ (g : Nat) (xs : List C),noRefs 0 xs = false → pu35 g xs = none := hnr_ext hnr34 nr35
theorem hit35 (a : List UInt8) (b : List UInt8) (hc0 : a.length = 16) (hc1 : b.length = 16) : pu35 82 [.agg (cl bC a),.agg (cl bC b)] = some (.agg (cl bC (nodT a b))) :=
  (ext_hit _).trans (tabOf_enc ij35 ⟨(a,b),⟨hc0,hc1⟩⟩)
abbrev D36 := {q0 : Nat × (List Leaf) × Nat × Nat // (OkL (q0.2.1)) ∧ ((q0.2.2.1) < (q0.2.2.2) ∧ (q0.2.2.2) ≤ (q0.2.1).length ∧ (q0.2.2.2) - (q0.2.2.1) ≤ 2 ^ (q0.1))}
def enc36 (q0 : D36) : List C := [.val (nI (q0.1.2.2.1)),.val (nI (q0.1.2.2.2)),.kp [sl eC .no (q0.1.2.1)],atG 79 [.kp [sl eC .no (q0.1.2.1)]] (q0.1.1)]
def out36 (q0 : D36) : C := .agg (cl bC (rowD (q0.1.2.1) (q0.1.1) (q0.1.2.2.1) (q0.1.2.2.2)))
noncomputable def pu36 : Nat → List C → Option C := Sx.ext pu35 79 (tabOf enc36 out36)
theorem nr36 (x : D36) : noRefs 0 (enc36 x) = true := by
  simp only [enc36,noRef_val,noRef_agg,noRef_tup,noRef_kp,noRef_sl,noRefs_cl,noRefs_cons,noRefs_nil,noRefs_app,Bool.and_self,Bool.and_true,noRef_fn,noRef_fnM,noRef_eC,atG_nr79]
theorem ij36 (x y : D36) (h : enc36 x = enc36 y) : out36 x = out36 y := by
  simp only [enc36,List.cons.injEq,C.val.injEq,C.kp.injEq,nI_inj,sl_inj,true_and,and_true] at h; have e := atG_inj h.2.2.2; simp only [out36,h,e]
theorem ok36 {gl : Nat → C} (hgn : ∀ g,noRef 0 (gl g) = true) (hg0 : gl 0 = .kp (cl wC kc)) (hg2 : gl 2 = .kp (cl wC kc)) (M : Nat) : CxOK (cxP gl M pu36) := CxOK.ext2 (N := 0) (ok35 hgn hg0 hg2 0) nr36 fun q0 => fc79 (ok35 hgn hg0 hg2 0) (by intros; (iterate 2 refine (ext_miss (by decide) _).trans ?_); apply hit33 <;> first | assumption | omega) (by intros; (iterate 1 refine (ext_miss (by decide) _).trans ?_); apply hit34 <;> first | assumption | omega) (by intros; apply hit35 <;> first | assumption | omega) ((q0.1.1)) ((q0.1.2.1)) ((q0.1.2.2.1)) ((q0.1.2.2.2)) q0.2.1 q0.2.2
theorem hnr36 : ∀ (g : Nat) (xs : List C),noRefs 0 xs = false → pu36 g xs = none := hnr_ext hnr35 nr36
theorem hit36 (d : Nat) (l : List Leaf) (a : Nat) (b : Nat) (hc0 : OkL l) (hc1 : a < b ∧ b ≤ l.length ∧ b - a ≤ 2 ^ d) : pu36 79 [.val (nI a),.val (nI b),.kp [sl eC .no l],atG 79 [.kp [sl eC .no l]] d] = some (.agg (cl bC (rowD l d a b))) :=
  (ext_hit _).trans (tabOf_enc ij36 ⟨(d,l,a,b),⟨hc0,hc1⟩⟩)
abbrev D37 := {q0 : (List Leaf) // (OkL (q0)) ∧ (0 < (q0).length)}
def enc37 (q0 : D37) : List C := [sl eC .no (q0.1)]
def out37 (q0 : D37) : C := .agg (cl bC (digT (q0.1)))
noncomputable def pu37 : Nat → List C → Option C := Sx.ext pu36 51 (tabOf enc37 out37)
theorem nr37 (x : D37) : noRefs 0 (enc37 x) = true := by
  simp only [enc37,noRef_val,noRef_agg,noRef_tup,noRef_kp,noRef_sl,noRefs_cl,noRefs_cons,noRefs_nil,noRefs_app,Bool.and_self,Bool.and_true,noRef_fn,noRef_fnM,noRef_eC,atG_nr79]
theorem ij37 (x y : D37) (h : enc37 x = enc37 y) : out37 x = out37 y := by
  simp only [enc37,List.cons.injEq,C.val.injEq,C.agg.injEq,C.kp.injEq,C.fn.injEq,eC_inj,str_inj,nI_inj,nU_inj,w8_inj,w32_inj,cl_inj,sl_inj,Value.int.injEq,Value.bool.injEq,true_and,and_true] at h; simp only [out37,h]
theorem ok37 {gl : Nat → C} (hgn : ∀ g,noRef 0 (gl g) = true) (hg0 : gl 0 = .kp (cl wC kc)) (hg2 : gl 2 = .kp (cl wC kc)) (M : Nat) : CxOK (cxP gl M pu37) := CxOK.ext2 (N := 0) (ok36 hgn hg0 hg2 0) nr37 fun q0 => fc51 (ok36 hgn hg0 hg2 0) (by intros; apply hit36 <;> first | assumption | omega) ((q0.1)) q0.2.1 q0.2.2
theorem hnr37 : ∀ (g : Nat) (xs : List C),noRefs 0 xs = false → pu37 g xs = none := hnr_ext hnr36 nr37
theorem hit37 (l : List Leaf) (hc0 : OkL l) (hc1 : 0 < l.length) : pu37 51 [sl eC .no l] = some (.agg (cl bC (digT l))) :=
  (ext_hit _).trans (tabOf_enc ij37 ⟨(l),⟨hc0,hc1⟩⟩)
abbrev D38 := {q0 : (List Leaf) // (LB (q0))}
def enc38 (q0 : D38) : List C := [sl eC .no (q0.1)]
def out38 (q0 : D38) : C := .tup [.agg (cl bC (rooT (q0.1)).1),.val (nI (rooT (q0.1)).2)]
noncomputable def pu38 : Nat → List C → Option C := Sx.ext pu37 12 (tabOf enc38 out38)
theorem nr38 (x : D38) : noRefs 0 (enc38 x) = true := by
  simp only [enc38,noRef_val,noRef_agg,noRef_tup,noRef_kp,noRef_sl,noRefs_cl,noRefs_cons,noRefs_nil,noRefs_app,Bool.and_self,Bool.and_true,noRef_fn,noRef_fnM,noRef_eC,atG_nr79]
theorem ij38 (x y : D38) (h : enc38 x = enc38 y) : out38 x = out38 y := by
  simp only [enc38,List.cons.injEq,C.val.injEq,C.agg.injEq,C.kp.injEq,C.fn.injEq,eC_inj,str_inj,nI_inj,nU_inj,w8_inj,w32_inj,cl_inj,sl_inj,Value.int.injEq,Value.bool.injEq,true_and,and_true] at h; simp only [out38,h]
theorem ok38 {gl : Nat → C} (hgn : ∀ g,noRef 0 (gl g) = true) (hg0 : gl 0 = .kp (cl wC kc)) (hg2 : gl 2 = .kp (cl wC kc)) (M : Nat) : CxOK (cxP gl M pu38) := CxOK.ext2 (N := 0) (ok37 hgn hg0 hg2 0) nr38 fun q0 => fc12 (ok37 hgn hg0 hg2 0) (by intros; (iterate 16 refine (ext_miss (by decide) _).trans ?_); apply hit21 <;> first | assumption | omega) (by intros; (iterate 5 refine (ext_miss (by decide) _).trans ?_); apply hit32 <;> first | assumption | omega) (by intros; apply hit37 <;> first | assumption | omega) ((q0.1)) q0.2
theorem hnr38 : ∀ (g : Nat) (xs : List C),noRefs 0 xs = false → pu38 g xs = none := hnr_ext hnr37 nr38
theorem hit38 (l : List Leaf) (hc0 : LB l) : pu38 12 [sl eC .no l] = some (.tup [.agg (cl bC (rooT l).1),.val (nI (rooT l).2)]) :=
  (ext_hit _).trans (tabOf_enc ij38 ⟨(l),hc0⟩)
abbrev D39 := {q0 : (List UInt8) × (List UInt8) // True}
def enc39 (q0 : D39) : List C := [.val (str (q0.1.1)),.val (str (q0.1.2))]
def out39 (q0 : D39) : C := .val (.int .i64 (cmpB (q0.1.1) (q0.1.2)))
noncomputable def pu39 : Nat → List C → Option C := Sx.ext pu38 90 (tabOf enc39 out39)
theorem nr39 (x : D39) : noRefs 0 (enc39 x) = true := by
  simp only [enc39,noRef_val,noRef_agg,noRef_tup,noRef_kp,noRef_sl,noRefs_cl,noRefs_cons,noRefs_nil,noRefs_app,Bool.and_self,Bool.and_true,noRef_fn,noRef_fnM,noRef_eC,atG_nr79]
theorem ij39 (x y : D39) (h : enc39 x = enc39 y) : out39 x = out39 y := by
  simp only [enc39,List.cons.injEq,C.val.injEq,C.agg.injEq,C.kp.injEq,C.fn.injEq,eC_inj,str_inj,nI_inj,nU_inj,w8_inj,w32_inj,cl_inj,sl_inj,Value.int.injEq,Value.bool.injEq,true_and,and_true] at h; simp only [out39,h]
theorem ok39 {gl : Nat → C} (hgn : ∀ g,noRef 0 (gl g) = true) (hg0 : gl 0 = .kp (cl wC kc)) (hg2 : gl 2 = .kp (cl wC kc)) (M : Nat) : CxOK (cxP gl M pu39) := CxOK.ext2 (N := 0) (ok38 hgn hg0 hg2 0) nr39 fun q0 => fc90' (ok38 hgn hg0 hg2 0) ((q0.1.1)) ((q0.1.2))
theorem hnr39 : ∀ (g : Nat) (xs : List C),noRefs 0 xs = false → pu39 g xs = none := hnr_ext hnr38 nr39
theorem hit39 (a : List UInt8) (b : List UInt8) : pu39 90 [.val (str a),.val (str b)] = some (.val (.int .i64 (cmpB a b))) :=
  (ext_hit _).trans (tabOf_enc ij39 ⟨(a,b),trivial⟩)
abbrev D40 := {q0 : Leaf × (List UInt8) // True}
def enc40 (q0 : D40) : List C := [.agg (eC (q0.1.1)),.val (str (q0.1.2))]
def out40 (q0 : D40) : C := .val (.int .i64 (cmpB (q0.1.1).1 (q0.1.2)))
noncomputable def pu40 : Nat → List C → Option C := Sx.ext pu39 89 (tabOf enc40 out40)
theorem nr40 (x : D40) : noRefs 0 (enc40 x) = true := by
  simp only [enc40,noRef_val,noRef_agg,noRef_tup,noRef_kp,noRef_sl,noRefs_cl,noRefs_cons,noRefs_nil,noRefs_app,Bool.and_self,Bool.and_true,noRef_fn,noRef_fnM,noRef_eC,atG_nr79]
theorem ij40 (x y : D40) (h : enc40 x = enc40 y) : out40 x = out40 y := by
  simp only [enc40,List.cons.injEq,C.val.injEq,C.agg.injEq,C.kp.injEq,C.fn.injEq,eC_inj,str_inj,nI_inj,nU_inj,w8_inj,w32_inj,cl_inj,sl_inj,Value.int.injEq,Value.bool.injEq,true_and,and_true] at h; simp only [out40,h]
theorem ok40 {gl : Nat → C} (hgn : ∀ g,noRef 0 (gl g) = true) (hg0 : gl 0 = .kp (cl wC kc)) (hg2 : gl 2 = .kp (cl wC kc)) (M : Nat) : CxOK (cxP gl M pu40) := CxOK.ext2 (N := 0) (ok39 hgn hg0 hg2 0) nr40 fun q0 => fc89 (ok39 hgn hg0 hg2 0) (by intros; apply hit39 <;> first | assumption | omega) ((q0.1.1)) ((q0.1.2))
theorem hnr40 : ∀ (g : Nat) (xs : List C),noRefs 0 xs = false → pu40 g xs = none := hnr_ext hnr39 nr40
theorem hit40 (x : Leaf) (k : List UInt8) : pu40 89 [.agg (eC x),.val (str k)] = some (.val (.int .i64 (cmpB x.1 k))) :=
  (ext_hit _).trans (tabOf_enc ij40 ⟨(x,k),trivial⟩)
abbrev D41 := {q0 : (List Leaf) × (List UInt8) // (Srt (q0.1)) ∧ ((q0.1).length ≤ 1000000)}
def enc41 (q0 : D41) : List C := [sl eC .no (q0.1.1),.val (str (q0.1.2)),.fn 89 []]
def out41 (q0 : D41) : C := .tup [.val (nI (fromT (q0.1.1) (q0.1.2))),.val (.bool (fndT (q0.1.1) (q0.1.2)))]
noncomputable def pu41 : Nat → List C → Option C := Sx.ext pu40 88 (tabOf enc41 out41)
theorem nr41 (x : D41) : noRefs 0 (enc41 x) = true := by
  simp only [enc41,noRef_val,noRef_agg,noRef_tup,noRef_kp,noRef_sl,noRefs_cl,noRefs_cons,noRefs_nil,noRefs_app,Bool.and_self,Bool.and_true,noRef_fn,noRef_fnM,noRef_eC,atG_nr79]
theorem ij41 (x y : D41) (h : enc41 x = enc41 y) : out41 x = out41 y := by
  simp only [enc41,List.cons.injEq,C.val.injEq,C.agg.injEq,C.kp.injEq,C.fn.injEq,eC_inj,str_inj,nI_inj,nU_inj,w8_inj,w32_inj,cl_inj,sl_inj,Value.int.injEq,Value.bool.injEq,true_and,and_true] at h; simp only [out41,h]
theorem ok41 {gl : Nat → C} (hgn : ∀ g,noRef 0 (gl g) = true) (hg0 : gl 0 = .kp (cl wC kc)) (hg2 : gl 2 = .kp (cl wC kc)) (M : Nat) : CxOK (cxP gl M pu41) := CxOK.ext2 (N := 0) (ok40 hgn hg0 hg2 0) nr41 fun q0 => fc88 (ok40 hgn hg0 hg2 0) (by intros; apply hit40 <;> first | assumption | omega) ((q0.1.1)) ((q0.1.2)) q0.2.1 q0.2.2
theorem hnr41 : ∀ (g : Nat) (xs : List C),noRefs 0 xs = false → pu41 g xs = none := hnr_ext hnr40 nr41
theorem hit41 (l : List Leaf) (k : List UInt8) (hc0 : Srt l) (hc1 : l.length ≤ 1000000) : pu41 88 [sl eC .no l,.val (str k),.fn 89 []] = some (.tup [.val (nI (fromT l k)),.val (.bool (fndT l k))]) :=
  (ext_hit _).trans (tabOf_enc ij41 ⟨(l,k),⟨hc0,hc1⟩⟩)
abbrev D42 := {q0 : (List Leaf) × (List UInt8) // (Srt (q0.1)) ∧ ((q0.1).length ≤ 1000000)}
def enc42 (q0 : D42) : List C := [sl eC .no (q0.1.1),.val (str (q0.1.2))]
def out42 (q0 : D42) : C := .val (nI (fromT (q0.1.1) (q0.1.2)))
noncomputable def pu42 : Nat → List C → Option C := Sx.ext pu41 56 (tabOf enc42 out42)
theorem nr42 (x : D42) : noRefs 0 (enc42 x) = true := by
  simp only [enc42,noRef_val,noRef_agg,noRef_tup,noRef_kp,noRef_sl,noRefs_cl,noRefs_cons,noRefs_nil,noRefs_app,Bool.and_self,Bool.and_true,noRef_fn,noRef_fnM,noRef_eC,atG_nr79]
theorem ij42 (x y : D42) (h : enc42 x = enc42 y) : out42 x = out42 y := by
  simp only [enc42,List.cons.injEq,C.val.injEq,C.agg.injEq,C.kp.injEq,C.fn.injEq,eC_inj,str_inj,nI_inj,nU_inj,w8_inj,w32_inj,cl_inj,sl_inj,Value.int.injEq,Value.bool.injEq,true_and,and_true] at h; simp only [out42,h]
theorem ok42 {gl : Nat → C} (hgn : ∀ g,noRef 0 (gl g) = true) (hg0 : gl 0 = .kp (cl wC kc)) (hg2 : gl 2 = .kp (cl wC kc)) (M : Nat) : CxOK (cxP gl M pu42) := CxOK.ext2 (N := 0) (ok41 hgn hg0 hg2 0) nr42 fun q0 => fc56 (ok41 hgn hg0 hg2 0) (by intros; apply hit41 <;> first | assumption | omega) ((q0.1.1)) ((q0.1.2)) q0.2.1 q0.2.2
theorem hnr42 : ∀ (g : Nat) (xs : List C),noRefs 0 xs = false → pu42 g xs = none := hnr_ext hnr41 nr42
theorem hit42 (l : List Leaf) (k : List UInt8) (hc0 : Srt l) (hc1 : l.length ≤ 1000000) : pu42 56 [sl eC .no l,.val (str k)] = some (.val (nI (fromT l k))) :=
  (ext_hit _).trans (tabOf_enc ij42 ⟨(l,k),⟨hc0,hc1⟩⟩)
abbrev D43 := {q0 : (List Leaf) // ((q0).length ≤ 1000000)}
def enc43 (q0 : D43) : List C := [sl eC .no (q0.1)]
def out43 (q0 : D43) : C := sl eC (.own 2) (q0.1)
noncomputable def pu43 : Nat → List C → Option C := Sx.ext pu42 63 (tabOf enc43 out43)
theorem nr43 (x : D43) : noRefs 0 (enc43 x) = true := by
  simp only [enc43,noRef_val,noRef_agg,noRef_tup,noRef_kp,noRef_sl,noRefs_cl,noRefs_cons,noRefs_nil,noRefs_app,Bool.and_self,Bool.and_true,noRef_fn,noRef_fnM,noRef_eC,atG_nr79]
theorem ij43 (x y : D43) (h : enc43 x = enc43 y) : out43 x = out43 y := by
  simp only [enc43,List.cons.injEq,C.val.injEq,C.agg.injEq,C.kp.injEq,C.fn.injEq,eC_inj,str_inj,nI_inj,nU_inj,w8_inj,w32_inj,cl_inj,sl_inj,Value.int.injEq,Value.bool.injEq,true_and,and_true] at h; simp only [out43,h]
theorem ok43 {gl : Nat → C} (hgn : ∀ g,noRef 0 (gl g) = true) (hg0 : gl 0 = .kp (cl wC kc)) (hg2 : gl 2 = .kp (cl wC kc)) (M : Nat) : CxOK (cxP gl M pu43) := CxOK.ext2 (N := 0) (ok42 hgn hg0 hg2 0) nr43 fun q0 => fc63 (ok42 hgn hg0 hg2 0) ((q0.1)) q0.2
theorem hnr43 : ∀ (g : Nat) (xs : List C),noRefs 0 xs = false → pu43 g xs = none := hnr_ext hnr42 nr43
theorem hit43 (l : List Leaf) (hc0 : l.length ≤ 1000000) : pu43 63 [sl eC .no l] = some (sl eC (.own 2) l) :=
  (ext_hit _).trans (tabOf_enc ij43 ⟨(l),hc0⟩)
abbrev D44 := {q0 : (List Leaf) × Nat × Nat // (OkL (q0.1)) ∧ ((q0.2.1) ≤ (q0.2.2) ∧ (q0.2.2) ≤ (q0.1).length)}
def enc44 (q0 : D44) : List C := [sl eC .no (q0.1.1),.val (nI (q0.1.2.1)),.val (nI (q0.1.2.2))]
def out44 (q0 : D44) : C := .agg [.val (nI (q0.1.2.1)),.val (nI (q0.1.1).length),sl eC .no (((q0.1.1).drop (q0.1.2.1)).take ((q0.1.2.2) - (q0.1.2.1))),sl dC .no (shdT (q0.1.1) (q0.1.2.1) (q0.1.2.2))]
noncomputable def pu44 : Nat → List C → Option C := Sx.ext pu43 57 (tabOf enc44 out44)
theorem nr44 (x : D44) : noRefs 0 (enc44 x) = true := by
  simp only [enc44,noRef_val,noRef_agg,noRef_tup,noRef_kp,noRef_sl,noRefs_cl,noRefs_cons,noRefs_nil,noRefs_app,Bool.and_self,Bool.and_true,noRef_fn,noRef_fnM,noRef_eC,atG_nr79]
theorem ij44 (x y : D44) (h : enc44 x = enc44 y) : out44 x = out44 y := by
  simp only [enc44,List.cons.injEq,C.val.injEq,C.agg.injEq,C.kp.injEq,C.fn.injEq,eC_inj,str_inj,nI_inj,nU_inj,w8_inj,w32_inj,cl_inj,sl_inj,Value.int.injEq,Value.bool.injEq,true_and,and_true] at h; simp only [out44,h]
theorem ok44 {gl : Nat → C} (hgn : ∀ g,noRef 0 (gl g) = true) (hg0 : gl 0 = .kp (cl wC kc)) (hg2 : gl 2 = .kp (cl wC kc)) (M : Nat) : CxOK (cxP gl M pu44) := CxOK.ext2 (N := 0) (ok43 hgn hg0 hg2 0) nr44 fun q0 => fc57' (ok43 hgn hg0 hg2 0) hnr43 (by intros; apply hit43 <;> first | assumption | omega) (by intros; (iterate 6 refine (ext_miss (by decide) _).trans ?_); apply hit37 <;> first | assumption | omega) (by intros; (iterate 9 refine (ext_miss (by decide) _).trans ?_); apply hit34 <;> first | assumption | omega) ((q0.1.1)) ((q0.1.2.1)) ((q0.1.2.2)) q0.2.1 q0.2.2
theorem hnr44 : ∀ (g : Nat) (xs : List C),noRefs 0 xs = false → pu44 g xs = none := hnr_ext hnr43 nr44
theorem hit44 (l : List Leaf) (f : Nat) (e : Nat) (hc0 : OkL l) (hc1 : f ≤ e ∧ e ≤ l.length) : pu44 57 [sl eC .no l,.val (nI f),.val (nI e)] = some (.agg [.val (nI f),.val (nI l.length),sl eC .no ((l.drop f).take (e - f)),sl dC .no (shdT l f e)]) :=
  (ext_hit _).trans (tabOf_enc ij44 ⟨(l,f,e),⟨hc0,hc1⟩⟩)
abbrev D45 := {q0 : (List Leaf) × (List UInt8) // (LB (q0.1))}
def enc45 (q0 : D45) : List C := [sl eC .no (q0.1.1),.val (str (q0.1.2))]
def out45 (q0 : D45) : C := .tup [.agg [.val (nI (prvT (q0.1.1) (q0.1.2)).1.1),.val (nI (prvT (q0.1.1) (q0.1.2)).1.2.1),sl eC .no (prvT (q0.1.1) (q0.1.2)).1.2.2.1,sl dC .no (prvT (q0.1.1) (q0.1.2)).1.2.2.2],.val (nI (prvT (q0.1.1) (q0.1.2)).2)]
noncomputable def pu45 : Nat → List C → Option C := Sx.ext pu44 22 (tabOf enc45 out45)
theorem nr45 (x : D45) : noRefs 0 (enc45 x) = true := by
  simp only [enc45,noRef_val,noRef_agg,noRef_tup,noRef_kp,noRef_sl,noRefs_cl,noRefs_cons,noRefs_nil,noRefs_app,Bool.and_self,Bool.and_true,noRef_fn,noRef_fnM,noRef_eC,atG_nr79]
theorem ij45 (x y : D45) (h : enc45 x = enc45 y) : out45 x = out45 y := by
  simp only [enc45,List.cons.injEq,C.val.injEq,C.agg.injEq,C.kp.injEq,C.fn.injEq,eC_inj,str_inj,nI_inj,nU_inj,w8_inj,w32_inj,cl_inj,sl_inj,Value.int.injEq,Value.bool.injEq,true_and,and_true] at h; simp only [out45,h]
theorem ok45 {gl : Nat → C} (hgn : ∀ g,noRef 0 (gl g) = true) (hg0 : gl 0 = .kp (cl wC kc)) (hg2 : gl 2 = .kp (cl wC kc)) (M : Nat) : CxOK (cxP gl M pu45) := CxOK.ext2 (N := 0) (ok44 hgn hg0 hg2 0) nr45 fun q0 => fc22 (ok44 hgn hg0 hg2 0) (by intros; (iterate 23 refine (ext_miss (by decide) _).trans ?_); apply hit21 <;> first | assumption | omega) (by intros; (iterate 2 refine (ext_miss (by decide) _).trans ?_); apply hit42 <;> first | assumption | omega) (by intros; apply hit44 <;> first | assumption | omega) ((q0.1.1)) ((q0.1.2)) q0.2
theorem hnr45 : ∀ (g : Nat) (xs : List C),noRefs 0 xs = false → pu45 g xs = none := hnr_ext hnr44 nr45
theorem hit45 (l : List Leaf) (k : List UInt8) (hc0 : LB l) : pu45 22 [sl eC .no l,.val (str k)] = some (.tup [.agg [.val (nI (prvT l k).1.1),.val (nI (prvT l k).1.2.1),sl eC .no (prvT l k).1.2.2.1,sl dC .no (prvT l k).1.2.2.2],.val (nI (prvT l k).2)]) :=
  (ext_hit _).trans (tabOf_enc ij45 ⟨(l,k),hc0⟩)
abbrev D46 := {q0 : (List Leaf) × (List UInt8) × (List UInt8) // (LB (q0.1))}
def enc46 (q0 : D46) : List C := [sl eC .no (q0.1.1),.val (str (q0.1.2.1)),.val (str (q0.1.2.2))]
def out46 (q0 : D46) : C := .tup [.agg [.val (nI (rngT (q0.1.1) (q0.1.2.1) (q0.1.2.2)).1.1),.val (nI (rngT (q0.1.1) (q0.1.2.1) (q0.1.2.2)).1.2.1),sl eC .no (rngT (q0.1.1) (q0.1.2.1) (q0.1.2.2)).1.2.2.1,sl dC .no (rngT (q0.1.1) (q0.1.2.1) (q0.1.2.2)).1.2.2.2],.val (nI (rngT (q0.1.1) (q0.1.2.1) (q0.1.2.2)).2)]
noncomputable def pu46 : Nat → List C → Option C := Sx.ext pu45 24 (tabOf enc46 out46)
theorem nr46 (x : D46) : noRefs 0 (enc46 x) = true := by
  simp only [enc46,noRef_val,noRef_agg,noRef_tup,noRef_kp,noRef_sl,noRefs_cl,noRefs_cons,noRefs_nil,noRefs_app,Bool.and_self,Bool.and_true,noRef_fn,noRef_fnM,noRef_eC,atG_nr79]
theorem ij46 (x y : D46) (h : enc46 x = enc46 y) : out46 x = out46 y := by
  simp only [enc46,List.cons.injEq,C.val.injEq,C.agg.injEq,C.kp.injEq,C.fn.injEq,eC_inj,str_inj,nI_inj,nU_inj,w8_inj,w32_inj,cl_inj,sl_inj,Value.int.injEq,Value.bool.injEq,true_and,and_true] at h; simp only [out46,h]
theorem ok46 {gl : Nat → C} (hgn : ∀ g,noRef 0 (gl g) = true) (hg0 : gl 0 = .kp (cl wC kc)) (hg2 : gl 2 = .kp (cl wC kc)) (M : Nat) : CxOK (cxP gl M pu46) := CxOK.ext2 (N := 0) (ok45 hgn hg0 hg2 0) nr46 fun q0 => fc24 (ok45 hgn hg0 hg2 0) (by intros; (iterate 24 refine (ext_miss (by decide) _).trans ?_); apply hit21 <;> first | assumption | omega) (by intros; (iterate 3 refine (ext_miss (by decide) _).trans ?_); apply hit42 <;> first | assumption | omega) (by intros; (iterate 1 refine (ext_miss (by decide) _).trans ?_); apply hit44 <;> first | assumption | omega) ((q0.1.1)) ((q0.1.2.1)) ((q0.1.2.2)) q0.2
theorem hnr46 : ∀ (g : Nat) (xs : List C),noRefs 0 xs = false → pu46 g xs = none := hnr_ext hnr45 nr46
theorem hit46 (l : List Leaf) (x : List UInt8) (y : List UInt8) (hc0 : LB l) : pu46 24 [sl eC .no l,.val (str x),.val (str y)] = some (.tup [.agg [.val (nI (rngT l x y).1.1),.val (nI (rngT l x y).1.2.1),sl eC .no (rngT l x y).1.2.2.1,sl dC .no (rngT l x y).1.2.2.2],.val (nI (rngT l x y).2)]) :=
  (ext_hit _).trans (tabOf_enc ij46 ⟨(l,x,y),hc0⟩)
abbrev D47 := {q0 : (List UInt8) × Int × Int × (List Leaf) × (List Dig) // ((q0.1).length = 16) ∧ (-9223372036854775808 ≤ (q0.2.1) ∧ (q0.2.1) ≤ 9223372036854775807) ∧ (-9223372036854775808 ≤ (q0.2.2.1) ∧ (q0.2.2.1) ≤ 9223372036854775807) ∧ (LB (q0.2.2.2.1)) ∧ ((q0.2.2.2.2).length ≤ 1000000)}
def enc47 (q0 : D47) : List C := [.agg [.val (.int .i64 (q0.1.2.1)),.val (.int .i64 (q0.1.2.2.1)),sl eC .no (q0.1.2.2.2.1),sl dC .no (q0.1.2.2.2.2)],.agg (cl bC (q0.1.1))]
def out47 (q0 : D47) : C := .val (.bool (undT (q0.1.1) (q0.1.2.1) (q0.1.2.2.1) (q0.1.2.2.2.1) (q0.1.2.2.2.2)))
noncomputable def pu47 : Nat → List C → Option C := Sx.ext pu46 61 (tabOf enc47 out47)
theorem nr47 (x : D47) : noRefs 0 (enc47 x) = true := by
  simp only [enc47,noRef_val,noRef_agg,noRef_tup,noRef_kp,noRef_sl,noRefs_cl,noRefs_cons,noRefs_nil,noRefs_app,Bool.and_self,Bool.and_true,noRef_fn,noRef_fnM,noRef_eC,atG_nr79]
theorem ij47 (x y : D47) (h : enc47 x = enc47 y) : out47 x = out47 y := by
  simp only [enc47,List.cons.injEq,C.val.injEq,C.agg.injEq,C.kp.injEq,C.fn.injEq,eC_inj,str_inj,nI_inj,nU_inj,w8_inj,w32_inj,cl_inj,sl_inj,Value.int.injEq,Value.bool.injEq,true_and,and_true] at h; simp only [out47,h]
theorem ok47 {gl : Nat → C} (hgn : ∀ g,noRef 0 (gl g) = true) (hg0 : gl 0 = .kp (cl wC kc)) (hg2 : gl 2 = .kp (cl wC kc)) (M : Nat) : CxOK (cxP gl M pu47) := CxOK.ext2 (N := 0) (ok46 hgn hg0 hg2 0) nr47 fun q0 => fc61' (ok46 hgn hg0 hg2 0) hnr46 (by intros; (iterate 25 refine (ext_miss (by decide) _).trans ?_); apply hit21 <;> first | assumption | omega) (by intros; (iterate 14 refine (ext_miss (by decide) _).trans ?_); apply hit32 <;> first | assumption | omega) (by intros; (iterate 13 refine (ext_miss (by decide) _).trans ?_); apply hit33 <;> first | assumption | omega) (by intros; (iterate 12 refine (ext_miss (by decide) _).trans ?_); apply hit34 <;> first | assumption | omega) (by intros; (iterate 11 refine (ext_miss (by decide) _).trans ?_); apply hit35 <;> first | assumption | omega) ((q0.1.1)) ((q0.1.2.1)) ((q0.1.2.2.1)) ((q0.1.2.2.2.1)) ((q0.1.2.2.2.2)) q0.2.1 q0.2.2.1 q0.2.2.2.1 q0.2.2.2.2.1 q0.2.2.2.2.2
theorem hnr47 : ∀ (g : Nat) (xs : List C),noRefs 0 xs = false → pu47 g xs = none := hnr_ext hnr46 nr47
theorem hit47 (r : List UInt8) (f : Int) (z : Int) (l : List Leaf) (S : List Dig) (hc0 : r.length = 16) (hc1 : -9223372036854775808 ≤ f ∧ f ≤ 9223372036854775807) (hc2 : -9223372036854775808 ≤ z ∧ z ≤ 9223372036854775807) (hc3 : LB l) (hc4 : S.length ≤ 1000000) : pu47 61 [.agg [.val (.int .i64 f),.val (.int .i64 z),sl eC .no l,sl dC .no S],.agg (cl bC r)] = some (.val (.bool (undT r f z l S))) :=
  (ext_hit _).trans (tabOf_enc ij47 ⟨(r,f,z,l,S),⟨hc0,hc1,hc2,hc3,hc4⟩⟩)
abbrev D48 := {q0 : (List UInt8) × (List UInt8) × Int × Int × (List Leaf) × (List Dig) // ((q0.1).length = 16) ∧ (-9223372036854775808 ≤ (q0.2.2.1) ∧ (q0.2.2.1) ≤ 9223372036854775807) ∧ (-9223372036854775808 ≤ (q0.2.2.2.1) ∧ (q0.2.2.2.1) ≤ 9223372036854775807) ∧ (LB (q0.2.2.2.2.1)) ∧ ((q0.2.2.2.2.2).length ≤ 1000000)}
def enc48 (q0 : D48) : List C := [.agg (cl bC (q0.1.1)),.val (str (q0.1.2.1)),.agg [.val (.int .i64 (q0.1.2.2.1)),.val (.int .i64 (q0.1.2.2.2.1)),sl eC .no (q0.1.2.2.2.2.1),sl dC .no (q0.1.2.2.2.2.2)]]
def out48 (q0 : D48) : C := .tup [.val (str (chkT (q0.1.1) (q0.1.2.1) (q0.1.2.2.1) (q0.1.2.2.2.1) (q0.1.2.2.2.2.1) (q0.1.2.2.2.2.2)).1),.val (.bool (chkT (q0.1.1) (q0.1.2.1) (q0.1.2.2.1) (q0.1.2.2.2.1) (q0.1.2.2.2.2.1) (q0.1.2.2.2.2.2)).2.1),.val (nI (chkT (q0.1.1) (q0.1.2.1) (q0.1.2.2.1) (q0.1.2.2.2.1) (q0.1.2.2.2.2.1) (q0.1.2.2.2.2.2)).2.2)]
noncomputable def pu48 : Nat → List C → Option C := Sx.ext pu47 29 (tabOf enc48 out48)
theorem nr48 (x : D48) : noRefs 0 (enc48 x) = true := by
  simp only [enc48,noRef_val,noRef_agg,noRef_tup,noRef_kp,noRef_sl,noRefs_cl,noRefs_cons,noRefs_nil,noRefs_app,Bool.and_self,Bool.and_true,noRef_fn,noRef_fnM,noRef_eC,atG_nr79]
theorem ij48 (x y : D48) (h : enc48 x = enc48 y) : out48 x = out48 y := by
  simp only [enc48,List.cons.injEq,C.val.injEq,C.agg.injEq,C.kp.injEq,C.fn.injEq,eC_inj,str_inj,nI_inj,nU_inj,w8_inj,w32_inj,cl_inj,sl_inj,Value.int.injEq,Value.bool.injEq,true_and,and_true] at h; simp only [out48,h]
theorem ok48 {gl : Nat → C} (hgn : ∀ g,noRef 0 (gl g) = true) (hg0 : gl 0 = .kp (cl wC kc)) (hg2 : gl 2 = .kp (cl wC kc)) (M : Nat) : CxOK (cxP gl M pu48) := CxOK.ext2 (N := 0) (ok47 hgn hg0 hg2 0) nr48 fun q0 => fc29 (ok47 hgn hg0 hg2 0) (by intros; apply hit47 <;> first | assumption | omega) (by intros; (iterate 5 refine (ext_miss (by decide) _).trans ?_); apply hit42 <;> first | assumption | omega) ((q0.1.1)) ((q0.1.2.1)) ((q0.1.2.2.1)) ((q0.1.2.2.2.1)) ((q0.1.2.2.2.2.1)) ((q0.1.2.2.2.2.2)) q0.2.1 q0.2.2.1 q0.2.2.2.1 q0.2.2.2.2.1 q0.2.2.2.2.2
theorem hnr48 : ∀ (g : Nat) (xs : List C),noRefs 0 xs = false → pu48 g xs = none := hnr_ext hnr47 nr48
theorem hit48 (r : List UInt8) (k : List UInt8) (f : Int) (z : Int) (l : List Leaf) (S : List Dig) (hc0 : r.length = 16) (hc1 : -9223372036854775808 ≤ f ∧ f ≤ 9223372036854775807) (hc2 : -9223372036854775808 ≤ z ∧ z ≤ 9223372036854775807) (hc3 : LB l) (hc4 : S.length ≤ 1000000) : pu48 29 [.agg (cl bC r),.val (str k),.agg [.val (.int .i64 f),.val (.int .i64 z),sl eC .no l,sl dC .no S]] = some (.tup [.val (str (chkT r k f z l S).1),.val (.bool (chkT r k f z l S).2.1),.val (nI (chkT r k f z l S).2.2)]) :=
  (ext_hit _).trans (tabOf_enc ij48 ⟨(r,k,f,z,l,S),⟨hc0,hc1,hc2,hc3,hc4⟩⟩)
abbrev D49 := {q0 : (List UInt8) × (List UInt8) × (List UInt8) × Int × Int × (List Leaf) × (List Dig) // ((q0.1).length = 16) ∧ (-9223372036854775808 ≤ (q0.2.2.2.1) ∧ (q0.2.2.2.1) ≤ 9223372036854775807) ∧ (-9223372036854775808 ≤ (q0.2.2.2.2.1) ∧ (q0.2.2.2.2.1) ≤ 9223372036854775807) ∧ (LB (q0.2.2.2.2.2.1)) ∧ ((q0.2.2.2.2.2.2).length ≤ 1000000)}
def enc49 (q0 : D49) : List C := [.agg (cl bC (q0.1.1)),.val (str (q0.1.2.1)),.val (str (q0.1.2.2.1)),.agg [.val (.int .i64 (q0.1.2.2.2.1)),.val (.int .i64 (q0.1.2.2.2.2.1)),sl eC .no (q0.1.2.2.2.2.2.1),sl dC .no (q0.1.2.2.2.2.2.2)]]
def out49 (q0 : D49) : C := .tup [sl eC .no (crgT (q0.1.1) (q0.1.2.1) (q0.1.2.2.1) (q0.1.2.2.2.1) (q0.1.2.2.2.2.1) (q0.1.2.2.2.2.2.1) (q0.1.2.2.2.2.2.2)).1,.val (nI (crgT (q0.1.1) (q0.1.2.1) (q0.1.2.2.1) (q0.1.2.2.2.1) (q0.1.2.2.2.2.1) (q0.1.2.2.2.2.2.1) (q0.1.2.2.2.2.2.2)).2)]
noncomputable def pu49 : Nat → List C → Option C := Sx.ext pu48 32 (tabOf enc49 out49)
theorem nr49 (x : D49) : noRefs 0 (enc49 x) = true := by
  simp only [enc49,noRef_val,noRef_agg,noRef_tup,noRef_kp,noRef_sl,noRefs_cl,noRefs_cons,noRefs_nil,noRefs_app,Bool.and_self,Bool.and_true,noRef_fn,noRef_fnM,noRef_eC,atG_nr79]
theorem ij49 (x y : D49) (h : enc49 x = enc49 y) : out49 x = out49 y := by
  simp only [enc49,List.cons.injEq,C.val.injEq,C.agg.injEq,C.kp.injEq,C.fn.injEq,eC_inj,str_inj,nI_inj,nU_inj,w8_inj,w32_inj,cl_inj,sl_inj,Value.int.injEq,Value.bool.injEq,true_and,and_true] at h; simp only [out49,h]
theorem ok49 {gl : Nat → C} (hgn : ∀ g,noRef 0 (gl g) = true) (hg0 : gl 0 = .kp (cl wC kc)) (hg2 : gl 2 = .kp (cl wC kc)) (M : Nat) : CxOK (cxP gl M pu49) := CxOK.ext2 (N := 0) (ok48 hgn hg0 hg2 0) nr49 fun q0 => fc32 (ok48 hgn hg0 hg2 0) (by intros; (iterate 1 refine (ext_miss (by decide) _).trans ?_); apply hit47 <;> first | assumption | omega) (by intros; (iterate 6 refine (ext_miss (by decide) _).trans ?_); apply hit42 <;> first | assumption | omega) (by intros; (iterate 5 refine (ext_miss (by decide) _).trans ?_); apply hit43 <;> first | assumption | omega) ((q0.1.1)) ((q0.1.2.1)) ((q0.1.2.2.1)) ((q0.1.2.2.2.1)) ((q0.1.2.2.2.2.1)) ((q0.1.2.2.2.2.2.1)) ((q0.1.2.2.2.2.2.2)) q0.2.1 q0.2.2.1 q0.2.2.2.1 q0.2.2.2.2.1 q0.2.2.2.2.2
theorem hnr49 : ∀ (g : Nat) (xs : List C),noRefs 0 xs = false → pu49 g xs = none := hnr_ext hnr48 nr49
theorem hit49 (r : List UInt8) (x : List UInt8) (y : List UInt8) (f : Int) (z : Int) (l : List Leaf) (S : List Dig) (hc0 : r.length = 16) (hc1 : -9223372036854775808 ≤ f ∧ f ≤ 9223372036854775807) (hc2 : -9223372036854775808 ≤ z ∧ z ≤ 9223372036854775807) (hc3 : LB l) (hc4 : S.length ≤ 1000000) : pu49 32 [.agg (cl bC r),.val (str x),.val (str y),.agg [.val (.int .i64 f),.val (.int .i64 z),sl eC .no l,sl dC .no S]] = some (.tup [sl eC .no (crgT r x y f z l S).1,.val (nI (crgT r x y f z l S).2)]) :=
  (ext_hit _).trans (tabOf_enc ij49 ⟨(r,x,y,f,z,l,S),⟨hc0,hc1,hc2,hc3,hc4⟩⟩)
abbrev D50 := {q0 : Unit // True}
def enc50 (q0 : D50) : List C := ([] : List C)
def out50 (q0 : D50) : C := sl eC .full fiv
noncomputable def pu50 : Nat → List C → Option C := Sx.ext pu49 55 (tabOf enc50 out50)
theorem nr50 (x : D50) : noRefs 0 (enc50 x) = true := by
  simp only [enc50,noRef_val,noRef_agg,noRef_tup,noRef_kp,noRef_sl,noRefs_cl,noRefs_cons,noRefs_nil,noRefs_app,Bool.and_self,Bool.and_true,noRef_fn,noRef_fnM,noRef_eC,atG_nr79]
theorem ij50 (x y : D50) (h : enc50 x = enc50 y) : out50 x = out50 y := by
  rfl
theorem ok50 {gl : Nat → C} (hgn : ∀ g,noRef 0 (gl g) = true) (hg0 : gl 0 = .kp (cl wC kc)) (hg2 : gl 2 = .kp (cl wC kc)) (M : Nat) : CxOK (cxP gl M pu50) := CxOK.ext2 (N := 0) (ok49 hgn hg0 hg2 0) nr50 fun q0 => fc55 (ok49 hgn hg0 hg2 0)
theorem hnr50 : ∀ (g : Nat) (xs : List C),noRefs 0 xs = false → pu50 g xs = none := hnr_ext hnr49 nr50
theorem hit50 : pu50 55 ([] : List C) = some (sl eC .full fiv) :=
  (ext_hit _).trans (tabOf_enc ij50 ⟨(),trivial⟩)
abbrev D51 := {q0 : Unit // True}
def enc51 (q0 : D51) : List C := ([] : List C)
def out51 (q0 : D51) : C := .val (.bool true)
noncomputable def pu51 : Nat → List C → Option C := Sx.ext pu50 19 (tabOf enc51 out51)
theorem nr51 (x : D51) : noRefs 0 (enc51 x) = true := by
  simp only [enc51,noRef_val,noRef_agg,noRef_tup,noRef_kp,noRef_sl,noRefs_cl,noRefs_cons,noRefs_nil,noRefs_app,Bool.and_self,Bool.and_true,noRef_fn,noRef_fnM,noRef_eC,atG_nr79]
theorem ij51 (x y : D51) (h : enc51 x = enc51 y) : out51 x = out51 y := by
  rfl
theorem ok51 {gl : Nat → C} (hgn : ∀ g,noRef 0 (gl g) = true) (hg0 : gl 0 = .kp (cl wC kc)) (hg2 : gl 2 = .kp (cl wC kc)) (M : Nat) : CxOK (cxP gl M pu51) := CxOK.ext2 (N := 0) (ok50 hgn hg0 hg2 0) nr51 fun q0 => fc19 (ok50 hgn hg0 hg2 0) (by intros; (iterate 12 refine (ext_miss (by decide) _).trans ?_); apply hit38 <;> first | assumption | omega) (by intros; (iterate 5 refine (ext_miss (by decide) _).trans ?_); apply hit45 <;> first | assumption | omega) (by intros; (iterate 4 refine (ext_miss (by decide) _).trans ?_); apply hit46 <;> first | assumption | omega) (by intros; (iterate 2 refine (ext_miss (by decide) _).trans ?_); apply hit48 <;> first | assumption | omega) (by intros; (iterate 1 refine (ext_miss (by decide) _).trans ?_); apply hit49 <;> first | assumption | omega) (by intros; apply hit50 <;> first | assumption | omega)
theorem hnr51 : ∀ (g : Nat) (xs : List C),noRefs 0 xs = false → pu51 g xs = none := hnr_ext hnr50 nr51
theorem hit51 : pu51 19 ([] : List C) = some (.val (.bool true)) :=
  (ext_hit _).trans (tabOf_enc ij51 ⟨(),trivial⟩)
abbrev D52 := {q0 : (List Leaf) × Int // ((q0.1).length ≤ 1000000) ∧ (∀ i,i < (q0.1).length → (gt (q0.1) i).1.length < 1000000) ∧ (-9223372036854775808 ≤ (q0.2) ∧ (q0.2) ≤ 9223372036854775807)}
def enc52 (q0 : D52) : List C := [sl eC .no (q0.1.1),.val (.int .i64 (q0.1.2))]
def out52 (q0 : D52) : C := .val (str (kyT (q0.1.1) (q0.1.2)))
noncomputable def pu52 : Nat → List C → Option C := Sx.ext pu51 20 (tabOf enc52 out52)
theorem nr52 (x : D52) : noRefs 0 (enc52 x) = true := by
  simp only [enc52,noRef_val,noRef_agg,noRef_tup,noRef_kp,noRef_sl,noRefs_cl,noRefs_cons,noRefs_nil,noRefs_app,Bool.and_self,Bool.and_true,noRef_fn,noRef_fnM,noRef_eC,atG_nr79]
theorem ij52 (x y : D52) (h : enc52 x = enc52 y) : out52 x = out52 y := by
  simp only [enc52,List.cons.injEq,C.val.injEq,C.agg.injEq,C.kp.injEq,C.fn.injEq,eC_inj,str_inj,nI_inj,nU_inj,w8_inj,w32_inj,cl_inj,sl_inj,Value.int.injEq,Value.bool.injEq,true_and,and_true] at h; simp only [out52,h]
theorem ok52 {gl : Nat → C} (hgn : ∀ g,noRef 0 (gl g) = true) (hg0 : gl 0 = .kp (cl wC kc)) (hg2 : gl 2 = .kp (cl wC kc)) (M : Nat) : CxOK (cxP gl M pu52) := CxOK.ext2 (N := 0) (ok51 hgn hg0 hg2 0) nr52 fun q0 => fc20 (ok51 hgn hg0 hg2 0) (by intros; (iterate 50 refine (ext_miss (by decide) _).trans ?_); apply hit1 <;> first | assumption | omega) (by intros; (iterate 48 refine (ext_miss (by decide) _).trans ?_); apply hit3 <;> first | assumption | omega) ((q0.1.1)) ((q0.1.2)) q0.2.1 q0.2.2.1 q0.2.2.2
theorem hnr52 : ∀ (g : Nat) (xs : List C),noRefs 0 xs = false → pu52 g xs = none := hnr_ext hnr51 nr52
theorem hit52 (l : List Leaf) (n : Int) (hc0 : l.length ≤ 1000000) (hc1 : ∀ i,i < l.length → (gt l i).1.length < 1000000) (hc2 : -9223372036854775808 ≤ n ∧ n ≤ 9223372036854775807) : pu52 20 [sl eC .no l,.val (.int .i64 n)] = some (.val (str (kyT l n))) :=
  (ext_hit _).trans (tabOf_enc ij52 ⟨(l,n),⟨hc0,hc1,hc2⟩⟩)
abbrev D53 := {q0 : (List Leaf) × (List UInt8) // ((q0.1).length ≤ 1000000)}
def enc53 (q0 : D53) : List C := [sl eC .no (q0.1.1),.val (str (q0.1.2))]
def out53 (q0 : D53) : C := .val (nI (fromT (q0.1.1) (q0.1.2)))
noncomputable def pu53 : Nat → List C → Option C := Sx.ext pu52 58 (tabOf enc53 out53)
theorem nr53 (x : D53) : noRefs 0 (enc53 x) = true := by
  simp only [enc53,noRef_val,noRef_agg,noRef_tup,noRef_kp,noRef_sl,noRefs_cl,noRefs_cons,noRefs_nil,noRefs_app,Bool.and_self,Bool.and_true,noRef_fn,noRef_fnM,noRef_eC,atG_nr79]
theorem ij53 (x y : D53) (h : enc53 x = enc53 y) : out53 x = out53 y := by
  simp only [enc53,List.cons.injEq,C.val.injEq,C.agg.injEq,C.kp.injEq,C.fn.injEq,eC_inj,str_inj,nI_inj,nU_inj,w8_inj,w32_inj,cl_inj,sl_inj,Value.int.injEq,Value.bool.injEq,true_and,and_true] at h; simp only [out53,h]
theorem ok53 {gl : Nat → C} (hgn : ∀ g,noRef 0 (gl g) = true) (hg0 : gl 0 = .kp (cl wC kc)) (hg2 : gl 2 = .kp (cl wC kc)) (M : Nat) : CxOK (cxP gl M pu53) := CxOK.ext2 (N := 0) (ok52 hgn hg0 hg2 0) nr53 fun q0 => fc58 (ok52 hgn hg0 hg2 0) ((q0.1.1)) ((q0.1.2)) q0.2
theorem hnr53 : ∀ (g : Nat) (xs : List C),noRefs 0 xs = false → pu53 g xs = none := hnr_ext hnr52 nr53
theorem hit53 (l : List Leaf) (k : List UInt8) (hc0 : l.length ≤ 1000000) : pu53 58 [sl eC .no l,.val (str k)] = some (.val (nI (fromT l k))) :=
  (ext_hit _).trans (tabOf_enc ij53 ⟨(l,k),hc0⟩)
abbrev D54 := {q0 : (List Leaf) × (List UInt8) // ((q0.1).length ≤ 1000000)}
def enc54 (q0 : D54) : List C := [sl eC .no (q0.1.1),.val (str (q0.1.2))]
def out54 (q0 : D54) : C := .val (.int .i64 (hasI (q0.1.1) (q0.1.2)))
noncomputable def pu54 : Nat → List C → Option C := Sx.ext pu53 35 (tabOf enc54 out54)
theorem nr54 (x : D54) : noRefs 0 (enc54 x) = true := by
  simp only [enc54,noRef_val,noRef_agg,noRef_tup,noRef_kp,noRef_sl,noRefs_cl,noRefs_cons,noRefs_nil,noRefs_app,Bool.and_self,Bool.and_true,noRef_fn,noRef_fnM,noRef_eC,atG_nr79]
theorem ij54 (x y : D54) (h : enc54 x = enc54 y) : out54 x = out54 y := by
  simp only [enc54,List.cons.injEq,C.val.injEq,C.agg.injEq,C.kp.injEq,C.fn.injEq,eC_inj,str_inj,nI_inj,nU_inj,w8_inj,w32_inj,cl_inj,sl_inj,Value.int.injEq,Value.bool.injEq,true_and,and_true] at h; simp only [out54,h]
theorem ok54 {gl : Nat → C} (hgn : ∀ g,noRef 0 (gl g) = true) (hg0 : gl 0 = .kp (cl wC kc)) (hg2 : gl 2 = .kp (cl wC kc)) (M : Nat) : CxOK (cxP gl M pu54) := CxOK.ext2 (N := 0) (ok53 hgn hg0 hg2 0) nr54 fun q0 => fc35 (ok53 hgn hg0 hg2 0) ((q0.1.1)) ((q0.1.2)) q0.2
theorem hnr54 : ∀ (g : Nat) (xs : List C),noRefs 0 xs = false → pu54 g xs = none := hnr_ext hnr53 nr54
theorem hit54 (l : List Leaf) (k : List UInt8) (hc0 : l.length ≤ 1000000) : pu54 35 [sl eC .no l,.val (str k)] = some (.val (.int .i64 (hasI l k))) :=
  (ext_hit _).trans (tabOf_enc ij54 ⟨(l,k),hc0⟩)
abbrev D55 := {q0 : (List Leaf) × Nat × Nat × Nat × Nat // (OkL (q0.1)) ∧ ((q0.2.1) ≤ 5000 ∧ (q0.2.2.1) ≤ 5000) ∧ ((q0.2.2.2.1) < (q0.2.2.2.2) ∧ (q0.2.2.2.2) ≤ (q0.1).length)}
def enc55 (q0 : D55) : List C := [sl eC .no (q0.1.1),.val (nI (q0.1.2.1)),.val (nI (q0.1.2.2.1)),.val (nI (q0.1.2.2.2.1)),.val (nI (q0.1.2.2.2.2))]
def out55 (q0 : D55) : C := sl dC (.own 16) (sdsT (q0.1.1) (q0.1.2.1) (q0.1.2.2.1) 12 (q0.1.2.2.2.1) (q0.1.2.2.2.2))
noncomputable def pu55 : Nat → List C → Option C := Sx.ext pu54 92 (tabOf enc55 out55)
theorem nr55 (x : D55) : noRefs 0 (enc55 x) = true := by
  simp only [enc55,noRef_val,noRef_agg,noRef_tup,noRef_kp,noRef_sl,noRefs_cl,noRefs_cons,noRefs_nil,noRefs_app,Bool.and_self,Bool.and_true,noRef_fn,noRef_fnM,noRef_eC,atG_nr79]
theorem ij55 (x y : D55) (h : enc55 x = enc55 y) : out55 x = out55 y := by
  simp only [enc55,List.cons.injEq,C.val.injEq,C.agg.injEq,C.kp.injEq,C.fn.injEq,eC_inj,str_inj,nI_inj,nU_inj,w8_inj,w32_inj,cl_inj,sl_inj,Value.int.injEq,Value.bool.injEq,true_and,and_true] at h; simp only [out55,h]
theorem ok55 {gl : Nat → C} (hgn : ∀ g,noRef 0 (gl g) = true) (hg0 : gl 0 = .kp (cl wC kc)) (hg2 : gl 2 = .kp (cl wC kc)) (M : Nat) : CxOK (cxP gl M pu55) := CxOK.ext2 (N := 0) (ok54 hgn hg0 hg2 0) nr55 fun q0 => fc92 (ok54 hgn hg0 hg2 0) hnr54 (by intros; (iterate 47 refine (ext_miss (by decide) _).trans ?_); apply hit7 <;> first | assumption | omega) (by intros; (iterate 42 refine (ext_miss (by decide) _).trans ?_); apply hit12 <;> first | assumption | omega) (by intros; (iterate 41 refine (ext_miss (by decide) _).trans ?_); apply hit13 <;> first | assumption | omega) (by intros; (iterate 40 refine (ext_miss (by decide) _).trans ?_); apply hit14 <;> first | assumption | omega) ((q0.1.1)) ((q0.1.2.1)) ((q0.1.2.2.1)) ((q0.1.2.2.2.1)) ((q0.1.2.2.2.2)) q0.2.1 q0.2.2.1 q0.2.2.2
theorem hnr55 : ∀ (g : Nat) (xs : List C),noRefs 0 xs = false → pu55 g xs = none := hnr_ext hnr54 nr55
theorem hit55 (l : List Leaf) (f : Nat) (e : Nat) (a : Nat) (b : Nat) (hc0 : OkL l) (hc1 : f ≤ 5000 ∧ e ≤ 5000) (hc2 : a < b ∧ b ≤ l.length) : pu55 92 [sl eC .no l,.val (nI f),.val (nI e),.val (nI a),.val (nI b)] = some (sl dC (.own 16) (sdsT l f e 12 a b)) :=
  (ext_hit _).trans (tabOf_enc ij55 ⟨(l,f,e,a,b),⟨hc0,hc1,hc2⟩⟩)
abbrev D56 := {q0 : (List Leaf) × Nat × Nat // (OkL (q0.1)) ∧ ((q0.2.1) ≤ (q0.2.2) ∧ (q0.2.2) ≤ (q0.1).length)}
def enc56 (q0 : D56) : List C := [sl eC .no (q0.1.1),.val (nI (q0.1.2.1)),.val (nI (q0.1.2.2))]
def out56 (q0 : D56) : C := .agg [.val (nI (q0.1.2.1)),.val (nI (q0.1.1).length),sl eC .no (((q0.1.1).drop (q0.1.2.1)).take ((q0.1.2.2) - (q0.1.2.1))),sl dC .no (shdT (q0.1.1) (q0.1.2.1) (q0.1.2.2))]
noncomputable def pu56 : Nat → List C → Option C := Sx.ext pu55 59 (tabOf enc56 out56)
theorem nr56 (x : D56) : noRefs 0 (enc56 x) = true := by
  simp only [enc56,noRef_val,noRef_agg,noRef_tup,noRef_kp,noRef_sl,noRefs_cl,noRefs_cons,noRefs_nil,noRefs_app,Bool.and_self,Bool.and_true,noRef_fn,noRef_fnM,noRef_eC,atG_nr79]
theorem ij56 (x y : D56) (h : enc56 x = enc56 y) : out56 x = out56 y := by
  simp only [enc56,List.cons.injEq,C.val.injEq,C.agg.injEq,C.kp.injEq,C.fn.injEq,eC_inj,str_inj,nI_inj,nU_inj,w8_inj,w32_inj,cl_inj,sl_inj,Value.int.injEq,Value.bool.injEq,true_and,and_true] at h; simp only [out56,h]
theorem ok56 {gl : Nat → C} (hgn : ∀ g,noRef 0 (gl g) = true) (hg0 : gl 0 = .kp (cl wC kc)) (hg2 : gl 2 = .kp (cl wC kc)) (M : Nat) : CxOK (cxP gl M pu56) := CxOK.ext2 (N := 0) (ok55 hgn hg0 hg2 0) nr56 fun q0 => fc59 (ok55 hgn hg0 hg2 0) (by intros; apply hit55 <;> first | assumption | omega) ((q0.1.1)) ((q0.1.2.1)) ((q0.1.2.2)) q0.2.1 q0.2.2
theorem hnr56 : ∀ (g : Nat) (xs : List C),noRefs 0 xs = false → pu56 g xs = none := hnr_ext hnr55 nr56
theorem hit56 (l : List Leaf) (f : Nat) (e : Nat) (hc0 : OkL l) (hc1 : f ≤ e ∧ e ≤ l.length) : pu56 59 [sl eC .no l,.val (nI f),.val (nI e)] = some (.agg [.val (nI f),.val (nI l.length),sl eC .no ((l.drop f).take (e - f)),sl dC .no (shdT l f e)]) :=
  (ext_hit _).trans (tabOf_enc ij56 ⟨(l,f,e),⟨hc0,hc1⟩⟩)
abbrev D57 := {q0 : (List Leaf) × (List UInt8) // (LB (q0.1))}
def enc57 (q0 : D57) : List C := [sl eC .no (q0.1.1),.val (str (q0.1.2))]
def out57 (q0 : D57) : C := .tup [.agg [.val (nI (prvT (q0.1.1) (q0.1.2)).1.1),.val (nI (prvT (q0.1.1) (q0.1.2)).1.2.1),sl eC .no (prvT (q0.1.1) (q0.1.2)).1.2.2.1,sl dC .no (prvT (q0.1.1) (q0.1.2)).1.2.2.2],.val (nI (prvT (q0.1.1) (q0.1.2)).2)]
noncomputable def pu57 : Nat → List C → Option C := Sx.ext pu56 23 (tabOf enc57 out57)
theorem nr57 (x : D57) : noRefs 0 (enc57 x) = true := by
  simp only [enc57,noRef_val,noRef_agg,noRef_tup,noRef_kp,noRef_sl,noRefs_cl,noRefs_cons,noRefs_nil,noRefs_app,Bool.and_self,Bool.and_true,noRef_fn,noRef_fnM,noRef_eC,atG_nr79]
theorem ij57 (x y : D57) (h : enc57 x = enc57 y) : out57 x = out57 y := by
  simp only [enc57,List.cons.injEq,C.val.injEq,C.agg.injEq,C.kp.injEq,C.fn.injEq,eC_inj,str_inj,nI_inj,nU_inj,w8_inj,w32_inj,cl_inj,sl_inj,Value.int.injEq,Value.bool.injEq,true_and,and_true] at h; simp only [out57,h]
theorem ok57 {gl : Nat → C} (hgn : ∀ g,noRef 0 (gl g) = true) (hg0 : gl 0 = .kp (cl wC kc)) (hg2 : gl 2 = .kp (cl wC kc)) (M : Nat) : CxOK (cxP gl M pu57) := CxOK.ext2 (N := 0) (ok56 hgn hg0 hg2 0) nr57 fun q0 => fc23 (ok56 hgn hg0 hg2 0) (by intros; (iterate 41 refine (ext_miss (by decide) _).trans ?_); apply hit15 <;> first | assumption | omega) (by intros; (iterate 3 refine (ext_miss (by decide) _).trans ?_); apply hit53 <;> first | assumption | omega) (by intros; (iterate 2 refine (ext_miss (by decide) _).trans ?_); apply hit54 <;> first | assumption | omega) (by intros; apply hit56 <;> first | assumption | omega) ((q0.1.1)) ((q0.1.2)) q0.2
theorem hnr57 : ∀ (g : Nat) (xs : List C),noRefs 0 xs = false → pu57 g xs = none := hnr_ext hnr56 nr57
theorem hit57 (l : List Leaf) (k : List UInt8) (hc0 : LB l) : pu57 23 [sl eC .no l,.val (str k)] = some (.tup [.agg [.val (nI (prvT l k).1.1),.val (nI (prvT l k).1.2.1),sl eC .no (prvT l k).1.2.2.1,sl dC .no (prvT l k).1.2.2.2],.val (nI (prvT l k).2)]) :=
  (ext_hit _).trans (tabOf_enc ij57 ⟨(l,k),hc0⟩)
abbrev D58 := {q0 : (List Leaf) × (List UInt8) × (List UInt8) // (LB (q0.1))}
def enc58 (q0 : D58) : List C := [sl eC .no (q0.1.1),.val (str (q0.1.2.1)),.val (str (q0.1.2.2))]
def out58 (q0 : D58) : C := .tup [.agg [.val (nI (rngT (q0.1.1) (q0.1.2.1) (q0.1.2.2)).1.1),.val (nI (rngT (q0.1.1) (q0.1.2.1) (q0.1.2.2)).1.2.1),sl eC .no (rngT (q0.1.1) (q0.1.2.1) (q0.1.2.2)).1.2.2.1,sl dC .no (rngT (q0.1.1) (q0.1.2.1) (q0.1.2.2)).1.2.2.2],.val (nI (rngT (q0.1.1) (q0.1.2.1) (q0.1.2.2)).2)]
noncomputable def pu58 : Nat → List C → Option C := Sx.ext pu57 25 (tabOf enc58 out58)
theorem nr58 (x : D58) : noRefs 0 (enc58 x) = true := by
  simp only [enc58,noRef_val,noRef_agg,noRef_tup,noRef_kp,noRef_sl,noRefs_cl,noRefs_cons,noRefs_nil,noRefs_app,Bool.and_self,Bool.and_true,noRef_fn,noRef_fnM,noRef_eC,atG_nr79]
theorem ij58 (x y : D58) (h : enc58 x = enc58 y) : out58 x = out58 y := by
  simp only [enc58,List.cons.injEq,C.val.injEq,C.agg.injEq,C.kp.injEq,C.fn.injEq,eC_inj,str_inj,nI_inj,nU_inj,w8_inj,w32_inj,cl_inj,sl_inj,Value.int.injEq,Value.bool.injEq,true_and,and_true] at h; simp only [out58,h]
theorem ok58 {gl : Nat → C} (hgn : ∀ g,noRef 0 (gl g) = true) (hg0 : gl 0 = .kp (cl wC kc)) (hg2 : gl 2 = .kp (cl wC kc)) (M : Nat) : CxOK (cxP gl M pu58) := CxOK.ext2 (N := 0) (ok57 hgn hg0 hg2 0) nr58 fun q0 => fc25 (ok57 hgn hg0 hg2 0) (by intros; (iterate 42 refine (ext_miss (by decide) _).trans ?_); apply hit15 <;> first | assumption | omega) (by intros; (iterate 4 refine (ext_miss (by decide) _).trans ?_); apply hit53 <;> first | assumption | omega) (by intros; (iterate 1 refine (ext_miss (by decide) _).trans ?_); apply hit56 <;> first | assumption | omega) ((q0.1.1)) ((q0.1.2.1)) ((q0.1.2.2)) q0.2
theorem hnr58 : ∀ (g : Nat) (xs : List C),noRefs 0 xs = false → pu58 g xs = none := hnr_ext hnr57 nr58
theorem hit58 (l : List Leaf) (x : List UInt8) (y : List UInt8) (hc0 : LB l) : pu58 25 [sl eC .no l,.val (str x),.val (str y)] = some (.tup [.agg [.val (nI (rngT l x y).1.1),.val (nI (rngT l x y).1.2.1),sl eC .no (rngT l x y).1.2.2.1,sl dC .no (rngT l x y).1.2.2.2],.val (nI (rngT l x y).2)]) :=
  (ext_hit _).trans (tabOf_enc ij58 ⟨(l,x,y),hc0⟩)
abbrev D59 := {q0 : Int × Int × (List Leaf) × (List Dig) × Int × Int // (-9223372036854775808 ≤ (q0.2.2.2.2.1) ∧ (q0.2.2.2.2.1) ≤ 9223372036854775807) ∧ (-9223372036854775808 ≤ (q0.2.2.2.2.2) ∧ (q0.2.2.2.2.2) ≤ 9223372036854775807) ∧ ((q0.2.2.1).length ≤ 1000000) ∧ (∀ i,i < (q0.2.2.1).length → (gt (q0.2.2.1) i).1.length ≤ 1000000 ∧ (gt (q0.2.2.1) i).2.length ≤ 1000000) ∧ ((q0.2.2.2.1).length ≤ 1000000)}
def enc59 (q0 : D59) : List C := [.agg [.val (.int .i64 (q0.1.1)),.val (.int .i64 (q0.1.2.1)),sl eC .no (q0.1.2.2.1),sl dC .no (q0.1.2.2.2.1)],.val (.int .i64 (q0.1.2.2.2.2.1)),.val (.int .i64 (q0.1.2.2.2.2.2))]
def out59 (q0 : D59) : C := .agg [.val (.int .i64 (bentT ((q0.1.1),(q0.1.2.1),(q0.1.2.2.1),(q0.1.2.2.2.1)) (q0.1.2.2.2.2.1) (q0.1.2.2.2.2.2)).1),.val (.int .i64 (bentT ((q0.1.1),(q0.1.2.1),(q0.1.2.2.1),(q0.1.2.2.2.1)) (q0.1.2.2.2.2.1) (q0.1.2.2.2.2.2)).2.1),sl eC .no (bentT ((q0.1.1),(q0.1.2.1),(q0.1.2.2.1),(q0.1.2.2.2.1)) (q0.1.2.2.2.2.1) (q0.1.2.2.2.2.2)).2.2.1,sl dC .no (bentT ((q0.1.1),(q0.1.2.1),(q0.1.2.2.1),(q0.1.2.2.2.1)) (q0.1.2.2.2.2.1) (q0.1.2.2.2.2.2)).2.2.2]
noncomputable def pu59 : Nat → List C → Option C := Sx.ext pu58 28 (tabOf enc59 out59)
theorem nr59 (x : D59) : noRefs 0 (enc59 x) = true := by
  simp only [enc59,noRef_val,noRef_agg,noRef_tup,noRef_kp,noRef_sl,noRefs_cl,noRefs_cons,noRefs_nil,noRefs_app,Bool.and_self,Bool.and_true,noRef_fn,noRef_fnM,noRef_eC,atG_nr79]
theorem ij59 (x y : D59) (h : enc59 x = enc59 y) : out59 x = out59 y := by
  simp only [enc59,List.cons.injEq,C.val.injEq,C.agg.injEq,C.kp.injEq,C.fn.injEq,eC_inj,str_inj,nI_inj,nU_inj,w8_inj,w32_inj,cl_inj,sl_inj,Value.int.injEq,Value.bool.injEq,true_and,and_true] at h; simp only [out59,h]
theorem ok59 {gl : Nat → C} (hgn : ∀ g,noRef 0 (gl g) = true) (hg0 : gl 0 = .kp (cl wC kc)) (hg2 : gl 2 = .kp (cl wC kc)) (M : Nat) : CxOK (cxP gl M pu59) := CxOK.ext2 (N := 0) (ok58 hgn hg0 hg2 0) nr59 fun q0 => fc28 (ok58 hgn hg0 hg2 0) (by intros; (iterate 57 refine (ext_miss (by decide) _).trans ?_); apply hit1 <;> first | assumption | omega) (by intros; (iterate 55 refine (ext_miss (by decide) _).trans ?_); apply hit3 <;> first | assumption | omega) ((q0.1.1)) ((q0.1.2.1)) ((q0.1.2.2.1)) ((q0.1.2.2.2.1)) ((q0.1.2.2.2.2.1)) ((q0.1.2.2.2.2.2)) q0.2.1 q0.2.2.1 q0.2.2.2.1 q0.2.2.2.2.1 q0.2.2.2.2.2
theorem hnr59 : ∀ (g : Nat) (xs : List C),noRefs 0 xs = false → pu59 g xs = none := hnr_ext hnr58 nr59
theorem hit59 (f : Int) (z : Int) (l : List Leaf) (S : List Dig) (w : Int) (y : Int) (hc0 : -9223372036854775808 ≤ w ∧ w ≤ 9223372036854775807) (hc1 : -9223372036854775808 ≤ y ∧ y ≤ 9223372036854775807) (hc2 : l.length ≤ 1000000) (hc3 : ∀ i,i < l.length → (gt l i).1.length ≤ 1000000 ∧ (gt l i).2.length ≤ 1000000) (hc4 : S.length ≤ 1000000) : pu59 28 [.agg [.val (.int .i64 f),.val (.int .i64 z),sl eC .no l,sl dC .no S],.val (.int .i64 w),.val (.int .i64 y)] = some (.agg [.val (.int .i64 (bentT (f,z,l,S) w y).1),.val (.int .i64 (bentT (f,z,l,S) w y).2.1),sl eC .no (bentT (f,z,l,S) w y).2.2.1,sl dC .no (bentT (f,z,l,S) w y).2.2.2]) :=
  (ext_hit _).trans (tabOf_enc ij59 ⟨(f,z,l,S,w,y),⟨hc0,hc1,hc2,hc3,hc4⟩⟩)
abbrev D60 := {q0 : (List Leaf) // ((q0).length ≤ 1000000)}
def enc60 (q0 : D60) : List C := [sl eC .no (q0.1)]
def out60 (q0 : D60) : C := sl eC (.own 2) (q0.1)
noncomputable def pu60 : Nat → List C → Option C := Sx.ext pu59 13 (tabOf enc60 out60)
theorem nr60 (x : D60) : noRefs 0 (enc60 x) = true := by
  simp only [enc60,noRef_val,noRef_agg,noRef_tup,noRef_kp,noRef_sl,noRefs_cl,noRefs_cons,noRefs_nil,noRefs_app,Bool.and_self,Bool.and_true,noRef_fn,noRef_fnM,noRef_eC,atG_nr79]
theorem ij60 (x y : D60) (h : enc60 x = enc60 y) : out60 x = out60 y := by
  simp only [enc60,List.cons.injEq,C.val.injEq,C.agg.injEq,C.kp.injEq,C.fn.injEq,eC_inj,str_inj,nI_inj,nU_inj,w8_inj,w32_inj,cl_inj,sl_inj,Value.int.injEq,Value.bool.injEq,true_and,and_true] at h; simp only [out60,h]
theorem ok60 {gl : Nat → C} (hgn : ∀ g,noRef 0 (gl g) = true) (hg0 : gl 0 = .kp (cl wC kc)) (hg2 : gl 2 = .kp (cl wC kc)) (M : Nat) : CxOK (cxP gl M pu60) := CxOK.ext2 (N := 0) (ok59 hgn hg0 hg2 0) nr60 fun q0 => fc13 (ok59 hgn hg0 hg2 0) ((q0.1)) q0.2
theorem hnr60 : ∀ (g : Nat) (xs : List C),noRefs 0 xs = false → pu60 g xs = none := hnr_ext hnr59 nr60
theorem hit60 (l : List Leaf) (hc0 : l.length ≤ 1000000) : pu60 13 [sl eC .no l] = some (sl eC (.own 2) l) :=
  (ext_hit _).trans (tabOf_enc ij60 ⟨(l),hc0⟩)
abbrev D61 := {q0 : Int × Int × (List Leaf) × (List Dig) // ((q0.2.2.1).length ≤ 1000000)}
def enc61 (q0 : D61) : List C := [.agg [.val (.int .i64 (q0.1.1)),.val (.int .i64 (q0.1.2.1)),sl eC .no (q0.1.2.2.1),sl dC .no (q0.1.2.2.2)]]
def out61 (q0 : D61) : C := .agg [.val (.int .i64 (q0.1.1)),.val (.int .i64 (q0.1.2.1)),sl eC .no (q0.1.2.2.1),sl dC .no (q0.1.2.2.2)]
noncomputable def pu61 : Nat → List C → Option C := Sx.ext pu60 30 (tabOf enc61 out61)
theorem nr61 (x : D61) : noRefs 0 (enc61 x) = true := by
  simp only [enc61,noRef_val,noRef_agg,noRef_tup,noRef_kp,noRef_sl,noRefs_cl,noRefs_cons,noRefs_nil,noRefs_app,Bool.and_self,Bool.and_true,noRef_fn,noRef_fnM,noRef_eC,atG_nr79]
theorem ij61 (x y : D61) (h : enc61 x = enc61 y) : out61 x = out61 y := by
  simp only [enc61,List.cons.injEq,C.val.injEq,C.agg.injEq,C.kp.injEq,C.fn.injEq,eC_inj,str_inj,nI_inj,nU_inj,w8_inj,w32_inj,cl_inj,sl_inj,Value.int.injEq,Value.bool.injEq,true_and,and_true] at h; simp only [out61,h]
theorem ok61 {gl : Nat → C} (hgn : ∀ g,noRef 0 (gl g) = true) (hg0 : gl 0 = .kp (cl wC kc)) (hg2 : gl 2 = .kp (cl wC kc)) (M : Nat) : CxOK (cxP gl M pu61) := CxOK.ext2 (N := 0) (ok60 hgn hg0 hg2 0) nr61 fun q0 => fc30 (ok60 hgn hg0 hg2 0) (by intros; apply hit60 <;> first | assumption | omega) ((q0.1.1)) ((q0.1.2.1)) ((q0.1.2.2.1)) ((q0.1.2.2.2)) q0.2
theorem hnr61 : ∀ (g : Nat) (xs : List C),noRefs 0 xs = false → pu61 g xs = none := hnr_ext hnr60 nr61
theorem hit61 (f : Int) (z : Int) (l : List Leaf) (S : List Dig) (hc0 : l.length ≤ 1000000) : pu61 30 [.agg [.val (.int .i64 f),.val (.int .i64 z),sl eC .no l,sl dC .no S]] = some (.agg [.val (.int .i64 f),.val (.int .i64 z),sl eC .no l,sl dC .no S]) :=
  (ext_hit _).trans (tabOf_enc ij61 ⟨(f,z,l,S),hc0⟩)
abbrev D62 := {q0 : (List UInt8) × Int × Int × (List Leaf) × (List Dig) // ((q0.1).length = 16) ∧ (-9223372036854775808 ≤ (q0.2.1) ∧ (q0.2.1) ≤ 9223372036854775807) ∧ (-9223372036854775808 ≤ (q0.2.2.1) ∧ (q0.2.2.1) ≤ 9223372036854775807) ∧ (LB (q0.2.2.2.1)) ∧ ((q0.2.2.2.2).length ≤ 1000000)}
def enc62 (q0 : D62) : List C := [.agg (cl bC (q0.1.1)),.agg [.val (.int .i64 (q0.1.2.1)),.val (.int .i64 (q0.1.2.2.1)),sl eC .no (q0.1.2.2.2.1),sl dC .no (q0.1.2.2.2.2)]]
def out62 (q0 : D62) : C := .val (.bool (undT (q0.1.1) (q0.1.2.1) (q0.1.2.2.1) (q0.1.2.2.2.1) (q0.1.2.2.2.2)))
noncomputable def pu62 : Nat → List C → Option C := Sx.ext pu61 62 (tabOf enc62 out62)
theorem nr62 (x : D62) : noRefs 0 (enc62 x) = true := by
  simp only [enc62,noRef_val,noRef_agg,noRef_tup,noRef_kp,noRef_sl,noRefs_cl,noRefs_cons,noRefs_nil,noRefs_app,Bool.and_self,Bool.and_true,noRef_fn,noRef_fnM,noRef_eC,atG_nr79]
theorem ij62 (x y : D62) (h : enc62 x = enc62 y) : out62 x = out62 y := by
  simp only [enc62,List.cons.injEq,C.val.injEq,C.agg.injEq,C.kp.injEq,C.fn.injEq,eC_inj,str_inj,nI_inj,nU_inj,w8_inj,w32_inj,cl_inj,sl_inj,Value.int.injEq,Value.bool.injEq,true_and,and_true] at h; simp only [out62,h]
theorem ok62 {gl : Nat → C} (hgn : ∀ g,noRef 0 (gl g) = true) (hg0 : gl 0 = .kp (cl wC kc)) (hg2 : gl 2 = .kp (cl wC kc)) (M : Nat) : CxOK (cxP gl M pu62) := CxOK.ext2 (N := 0) (ok61 hgn hg0 hg2 0) nr62 fun q0 => fc62' (ok61 hgn hg0 hg2 0) hnr61 (by intros; (iterate 54 refine (ext_miss (by decide) _).trans ?_); apply hit7 <;> first | assumption | omega) (by intros; (iterate 49 refine (ext_miss (by decide) _).trans ?_); apply hit12 <;> first | assumption | omega) (by intros; (iterate 48 refine (ext_miss (by decide) _).trans ?_); apply hit13 <;> first | assumption | omega) (by intros; (iterate 47 refine (ext_miss (by decide) _).trans ?_); apply hit14 <;> first | assumption | omega) (by intros; (iterate 56 refine (ext_miss (by decide) _).trans ?_); apply hit5 <;> first | assumption | omega) (by intros; (iterate 46 refine (ext_miss (by decide) _).trans ?_); apply hit15 <;> first | assumption | omega) ((q0.1.1)) ((q0.1.2.1)) ((q0.1.2.2.1)) ((q0.1.2.2.2.1)) ((q0.1.2.2.2.2)) q0.2.1 q0.2.2.1 q0.2.2.2.1 q0.2.2.2.2.1 q0.2.2.2.2.2
theorem hit62 (r : List UInt8) (f : Int) (z : Int) (l : List Leaf) (S : List Dig) (hc0 : r.length = 16) (hc1 : -9223372036854775808 ≤ f ∧ f ≤ 9223372036854775807) (hc2 : -9223372036854775808 ≤ z ∧ z ≤ 9223372036854775807) (hc3 : LB l) (hc4 : S.length ≤ 1000000) : pu62 62 [.agg (cl bC r),.agg [.val (.int .i64 f),.val (.int .i64 z),sl eC .no l,sl dC .no S]] = some (.val (.bool (undT r f z l S))) :=
  (ext_hit _).trans (tabOf_enc ij62 ⟨(r,f,z,l,S),⟨hc0,hc1,hc2,hc3,hc4⟩⟩)
abbrev D63 := {q0 : (List UInt8) × (List UInt8) × Int × Int × (List Leaf) × (List Dig) // ((q0.1).length = 16) ∧ (-9223372036854775808 ≤ (q0.2.2.1) ∧ (q0.2.2.1) ≤ 9223372036854775807) ∧ (-9223372036854775808 ≤ (q0.2.2.2.1) ∧ (q0.2.2.2.1) ≤ 9223372036854775807) ∧ (LB (q0.2.2.2.2.1)) ∧ ((q0.2.2.2.2.2).length ≤ 1000000)}
def enc63 (q0 : D63) : List C := [.agg (cl bC (q0.1.1)),.val (str (q0.1.2.1)),.agg [.val (.int .i64 (q0.1.2.2.1)),.val (.int .i64 (q0.1.2.2.2.1)),sl eC .no (q0.1.2.2.2.2.1),sl dC .no (q0.1.2.2.2.2.2)]]
def out63 (q0 : D63) : C := .tup [.val (str (chkT (q0.1.1) (q0.1.2.1) (q0.1.2.2.1) (q0.1.2.2.2.1) (q0.1.2.2.2.2.1) (q0.1.2.2.2.2.2)).1),.val (.bool (chkT (q0.1.1) (q0.1.2.1) (q0.1.2.2.1) (q0.1.2.2.2.1) (q0.1.2.2.2.2.1) (q0.1.2.2.2.2.2)).2.1),.val (nI (chkT (q0.1.1) (q0.1.2.1) (q0.1.2.2.1) (q0.1.2.2.2.1) (q0.1.2.2.2.2.1) (q0.1.2.2.2.2.2)).2.2)]
noncomputable def pu63 : Nat → List C → Option C := Sx.ext pu62 31 (tabOf enc63 out63)
theorem nr63 (x : D63) : noRefs 0 (enc63 x) = true := by
  simp only [enc63,noRef_val,noRef_agg,noRef_tup,noRef_kp,noRef_sl,noRefs_cl,noRefs_cons,noRefs_nil,noRefs_app,Bool.and_self,Bool.and_true,noRef_fn,noRef_fnM,noRef_eC,atG_nr79]
theorem ij63 (x y : D63) (h : enc63 x = enc63 y) : out63 x = out63 y := by
  simp only [enc63,List.cons.injEq,C.val.injEq,C.agg.injEq,C.kp.injEq,C.fn.injEq,eC_inj,str_inj,nI_inj,nU_inj,w8_inj,w32_inj,cl_inj,sl_inj,Value.int.injEq,Value.bool.injEq,true_and,and_true] at h; simp only [out63,h]
theorem ok63 {gl : Nat → C} (hgn : ∀ g,noRef 0 (gl g) = true) (hg0 : gl 0 = .kp (cl wC kc)) (hg2 : gl 2 = .kp (cl wC kc)) (M : Nat) : CxOK (cxP gl M pu63) := CxOK.ext2 (N := 0) (ok62 hgn hg0 hg2 0) nr63 fun q0 => fc31 (ok62 hgn hg0 hg2 0) (by intros; apply hit62 <;> first | assumption | omega) (by intros; (iterate 8 refine (ext_miss (by decide) _).trans ?_); apply hit54 <;> first | assumption | omega) (by intros; (iterate 9 refine (ext_miss (by decide) _).trans ?_); apply hit53 <;> first | assumption | omega) ((q0.1.1)) ((q0.1.2.1)) ((q0.1.2.2.1)) ((q0.1.2.2.2.1)) ((q0.1.2.2.2.2.1)) ((q0.1.2.2.2.2.2)) q0.2.1 q0.2.2.1 q0.2.2.2.1 q0.2.2.2.2.1 q0.2.2.2.2.2
theorem hit63 (r : List UInt8) (k : List UInt8) (f : Int) (z : Int) (l : List Leaf) (S : List Dig) (hc0 : r.length = 16) (hc1 : -9223372036854775808 ≤ f ∧ f ≤ 9223372036854775807) (hc2 : -9223372036854775808 ≤ z ∧ z ≤ 9223372036854775807) (hc3 : LB l) (hc4 : S.length ≤ 1000000) : pu63 31 [.agg (cl bC r),.val (str k),.agg [.val (.int .i64 f),.val (.int .i64 z),sl eC .no l,sl dC .no S]] = some (.tup [.val (str (chkT r k f z l S).1),.val (.bool (chkT r k f z l S).2.1),.val (nI (chkT r k f z l S).2.2)]) :=
  (ext_hit _).trans (tabOf_enc ij63 ⟨(r,k,f,z,l,S),⟨hc0,hc1,hc2,hc3,hc4⟩⟩)
abbrev D64 := {q0 : (List Leaf) × (List UInt8) × (List UInt8) // ((q0.1).length ≤ 1000000)}
def enc64 (q0 : D64) : List C := [sl eC .no (q0.1.1),.val (str (q0.1.2.1)),.val (str (q0.1.2.2))]
def out64 (q0 : D64) : C := sl eC (.own 2) (insT (q0.1.1) (q0.1.2.1) (q0.1.2.2) (q0.1.1).length)
noncomputable def pu64 : Nat → List C → Option C := Sx.ext pu63 36 (tabOf enc64 out64)
theorem nr64 (x : D64) : noRefs 0 (enc64 x) = true := by
  simp only [enc64,noRef_val,noRef_agg,noRef_tup,noRef_kp,noRef_sl,noRefs_cl,noRefs_cons,noRefs_nil,noRefs_app,Bool.and_self,Bool.and_true,noRef_fn,noRef_fnM,noRef_eC,atG_nr79]
theorem ij64 (x y : D64) (h : enc64 x = enc64 y) : out64 x = out64 y := by
  simp only [enc64,List.cons.injEq,C.val.injEq,C.agg.injEq,C.kp.injEq,C.fn.injEq,eC_inj,str_inj,nI_inj,nU_inj,w8_inj,w32_inj,cl_inj,sl_inj,Value.int.injEq,Value.bool.injEq,true_and,and_true] at h; simp only [out64,h]
theorem ok64 {gl : Nat → C} (hgn : ∀ g,noRef 0 (gl g) = true) (hg0 : gl 0 = .kp (cl wC kc)) (hg2 : gl 2 = .kp (cl wC kc)) (M : Nat) : CxOK (cxP gl M pu64) := CxOK.ext2 (N := 0) (ok63 hgn hg0 hg2 0) nr64 fun q0 => fc36 (ok63 hgn hg0 hg2 0) ((q0.1.1)) ((q0.1.2.1)) ((q0.1.2.2)) q0.2
theorem hit64 (l : List Leaf) (x : List UInt8) (y : List UInt8) (hc0 : l.length ≤ 1000000) : pu64 36 [sl eC .no l,.val (str x),.val (str y)] = some (sl eC (.own 2) (insT l x y l.length)) :=
  (ext_hit _).trans (tabOf_enc ij64 ⟨(l,x,y),hc0⟩)
abbrev D65 := {q0 : (List UInt8) × (List UInt8) × (List UInt8) × Int × Int × (List Leaf) × (List Dig) // ((q0.1).length = 16) ∧ (-9223372036854775808 ≤ (q0.2.2.2.1) ∧ (q0.2.2.2.1) ≤ 9223372036854775807) ∧ (-9223372036854775808 ≤ (q0.2.2.2.2.1) ∧ (q0.2.2.2.2.1) ≤ 9223372036854775807) ∧ (LB (q0.2.2.2.2.2.1)) ∧ ((q0.2.2.2.2.2.2).length ≤ 1000000)}
def enc65 (q0 : D65) : List C := [.agg (cl bC (q0.1.1)),.val (str (q0.1.2.1)),.val (str (q0.1.2.2.1)),.agg [.val (.int .i64 (q0.1.2.2.2.1)),.val (.int .i64 (q0.1.2.2.2.2.1)),sl eC .no (q0.1.2.2.2.2.2.1),sl dC .no (q0.1.2.2.2.2.2.2)]]
def out65 (q0 : D65) : C := .tup [sl eC .no (crgT (q0.1.1) (q0.1.2.1) (q0.1.2.2.1) (q0.1.2.2.2.1) (q0.1.2.2.2.2.1) (q0.1.2.2.2.2.2.1) (q0.1.2.2.2.2.2.2)).1,.val (nI (crgT (q0.1.1) (q0.1.2.1) (q0.1.2.2.1) (q0.1.2.2.2.1) (q0.1.2.2.2.2.1) (q0.1.2.2.2.2.2.1) (q0.1.2.2.2.2.2.2)).2)]
noncomputable def pu65 : Nat → List C → Option C := Sx.ext pu64 33 (tabOf enc65 out65)
theorem nr65 (x : D65) : noRefs 0 (enc65 x) = true := by
  simp only [enc65,noRef_val,noRef_agg,noRef_tup,noRef_kp,noRef_sl,noRefs_cl,noRefs_cons,noRefs_nil,noRefs_app,Bool.and_self,Bool.and_true,noRef_fn,noRef_fnM,noRef_eC,atG_nr79]
theorem ij65 (x y : D65) (h : enc65 x = enc65 y) : out65 x = out65 y := by
  simp only [enc65,List.cons.injEq,C.val.injEq,C.agg.injEq,C.kp.injEq,C.fn.injEq,eC_inj,str_inj,nI_inj,nU_inj,w8_inj,w32_inj,cl_inj,sl_inj,Value.int.injEq,Value.bool.injEq,true_and,and_true] at h; simp only [out65,h]
theorem ok65 {gl : Nat → C} (hgn : ∀ g,noRef 0 (gl g) = true) (hg0 : gl 0 = .kp (cl wC kc)) (hg2 : gl 2 = .kp (cl wC kc)) (M : Nat) : CxOK (cxP gl M pu65) := CxOK.ext2 (N := 0) (ok64 hgn hg0 hg2 0) nr65 fun q0 => fc33 (ok64 hgn hg0 hg2 0) (by intros; (iterate 2 refine (ext_miss (by decide) _).trans ?_); apply hit62 <;> first | assumption | omega) (by intros; apply hit64 <;> first | assumption | omega) ((q0.1.1)) ((q0.1.2.1)) ((q0.1.2.2.1)) ((q0.1.2.2.2.1)) ((q0.1.2.2.2.2.1)) ((q0.1.2.2.2.2.2.1)) ((q0.1.2.2.2.2.2.2)) q0.2.1 q0.2.2.1 q0.2.2.2.1 q0.2.2.2.2.1 q0.2.2.2.2.2
theorem hit65 (r : List UInt8) (x : List UInt8) (y : List UInt8) (f : Int) (z : Int) (l : List Leaf) (S : List Dig) (hc0 : r.length = 16) (hc1 : -9223372036854775808 ≤ f ∧ f ≤ 9223372036854775807) (hc2 : -9223372036854775808 ≤ z ∧ z ≤ 9223372036854775807) (hc3 : LB l) (hc4 : S.length ≤ 1000000) : pu65 33 [.agg (cl bC r),.val (str x),.val (str y),.agg [.val (.int .i64 f),.val (.int .i64 z),sl eC .no l,sl dC .no S]] = some (.tup [sl eC .no (crgT r x y f z l S).1,.val (nI (crgT r x y f z l S).2)]) :=
  (ext_hit _).trans (tabOf_enc ij65 ⟨(r,x,y,f,z,l,S),⟨hc0,hc1,hc2,hc3,hc4⟩⟩)
abbrev D66 := {q0 : (List Leaf) × (List Leaf) // ((q0.1).length ≤ 1000000) ∧ ((q0.2).length ≤ 1000000)}
def enc66 (q0 : D66) : List C := [sl eC .no (q0.1.1),sl eC .no (q0.1.2)]
def out66 (q0 : D66) : C := .val (.bool (decide ((q0.1.1) = (q0.1.2))))
noncomputable def pu66 : Nat → List C → Option C := Sx.ext pu65 34 (tabOf enc66 out66)
theorem nr66 (x : D66) : noRefs 0 (enc66 x) = true := by
  simp only [enc66,noRef_val,noRef_agg,noRef_tup,noRef_kp,noRef_sl,noRefs_cl,noRefs_cons,noRefs_nil,noRefs_app,Bool.and_self,Bool.and_true,noRef_fn,noRef_fnM,noRef_eC,atG_nr79]
theorem ij66 (x y : D66) (h : enc66 x = enc66 y) : out66 x = out66 y := by
  simp only [enc66,List.cons.injEq,C.val.injEq,C.agg.injEq,C.kp.injEq,C.fn.injEq,eC_inj,str_inj,nI_inj,nU_inj,w8_inj,w32_inj,cl_inj,sl_inj,Value.int.injEq,Value.bool.injEq,true_and,and_true] at h; simp only [out66,h]
theorem ok66 {gl : Nat → C} (hgn : ∀ g,noRef 0 (gl g) = true) (hg0 : gl 0 = .kp (cl wC kc)) (hg2 : gl 2 = .kp (cl wC kc)) (M : Nat) : CxOK (cxP gl M pu66) := CxOK.ext2 (N := 0) (ok65 hgn hg0 hg2 0) nr66 fun q0 => fc34 (ok65 hgn hg0 hg2 0) ((q0.1.1)) ((q0.1.2)) q0.2.1 q0.2.2
theorem hit66 (x : List Leaf) (y : List Leaf) (hc0 : x.length ≤ 1000000) (hc1 : y.length ≤ 1000000) : pu66 34 [sl eC .no x,sl eC .no y] = some (.val (.bool (decide (x = y)))) :=
  (ext_hit _).trans (tabOf_enc ij66 ⟨(x,y),⟨hc0,hc1⟩⟩)
theorem law5 {gl : Nat → C} (hgn : ∀ g,noRef 0 (gl g) = true) (hg0 : gl 0 = .kp (cl wC kc)) (hg2 : gl 2 = .kp (cl wC kc)) (l : List Int) (l' : List Int) (k : Int) (m : Int) (w : Int) (u : Int) (hc0 : LI l) (hc1 : LI l') (hc2 : -9223372036854775808 ≤ k ∧ k ≤ 9223372036854775807) (hc3 : -9223372036854775808 ≤ m ∧ m ≤ 9223372036854775807) (hc4 : -9223372036854775808 ≤ w ∧ w ≤ 9223372036854775807) (hc5 : -9223372036854775808 ≤ u ∧ u ≤ 9223372036854775807) : FC Tryd.prog gl 5 [sl iC .no l,sl iC .no l',.val (.int .i64 k),.val (.int .i64 m),.val (.int .i64 w),.val (.int .i64 u)] [] (.val (.bool true)) [] := fc5 (ok66 hgn hg0 hg2 0) (by intros; (iterate 62 refine (ext_miss (by decide) _).trans ?_); apply hit4 <;> first | assumption | omega) (by intros; (iterate 50 refine (ext_miss (by decide) _).trans ?_); apply hit16 <;> first | assumption | omega) (by intros; (iterate 49 refine (ext_miss (by decide) _).trans ?_); apply hit17 <;> first | assumption | omega) (by intros; (iterate 15 refine (ext_miss (by decide) _).trans ?_); apply hit51 <;> first | assumption | omega) (by intros; (iterate 14 refine (ext_miss (by decide) _).trans ?_); apply hit52 <;> first | assumption | omega) (by intros; (iterate 9 refine (ext_miss (by decide) _).trans ?_); apply hit57 <;> first | assumption | omega) (by intros; (iterate 8 refine (ext_miss (by decide) _).trans ?_); apply hit58 <;> first | assumption | omega) (by intros; (iterate 7 refine (ext_miss (by decide) _).trans ?_); apply hit59 <;> first | assumption | omega) (by intros; (iterate 18 refine (ext_miss (by decide) _).trans ?_); apply hit48 <;> first | assumption | omega) (by intros; (iterate 5 refine (ext_miss (by decide) _).trans ?_); apply hit61 <;> first | assumption | omega) (by intros; (iterate 3 refine (ext_miss (by decide) _).trans ?_); apply hit63 <;> first | assumption | omega) (by intros; (iterate 17 refine (ext_miss (by decide) _).trans ?_); apply hit49 <;> first | assumption | omega) (by intros; (iterate 1 refine (ext_miss (by decide) _).trans ?_); apply hit65 <;> first | assumption | omega) (by intros; apply hit66 <;> first | assumption | omega) (l) (l') (k) (m) (w) (u) hc0 hc1 hc2 hc3 hc4 hc5
end Go.Sx.T5
