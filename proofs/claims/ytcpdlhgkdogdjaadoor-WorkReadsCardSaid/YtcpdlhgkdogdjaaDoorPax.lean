/-
  
-/
import Derived.Test.YtcpdlhgkdogdjaaDoorPao
import Derived.Test.YtcpdlhgkdogdjaaDoorPap
import Derived.Test.YtcpdlhgkdogdjaaDoorPaq
import Derived.Test.YtcpdlhgkdogdjaaDoorPar
import Derived.Test.YtcpdlhgkdogdjaaDoorPav
import Derived.Test.YtcpdlhgkdogdjaaDoorPaw
set_option linter.unusedSimpArgs false
set_option linter.unusedVariables false
namespace Go.Sx.T5
open Go.RowKit Go.Proofs Go.Sx
def pu0 : Nat → List C → Option C := fun _ _ => none
theorem ok0 {gl : Nat → C} (hgn : ∀ g,noRef 0 (gl g) = true) (hg0 : gl 0 = .kp (iD (-1,0,0))) (M : Nat) : CxOK (cxP gl M pu0) := CxOK.zero hgn
theorem hno0 : ∀ (g : Nat) (xs : List C),refy xs = true → pu0 g xs = none := hno_zero
abbrev D1 := {q0 : Int × Nat // (-9223372036854775808 ≤ (q0.1) ∧ (q0.1) ≤ 9223372036854775807 ∧ 0 < (q0.2) ∧ (q0.2) ≤ 9223372036854775807)}
def enc1 (q0 : D1) : List C := [.val (.int .i64 (q0.1.1)),.val (nI (q0.1.2))]
noncomputable def out1 (q0 : D1) : C := .val (nI (aroundI (q0.1.1) (q0.1.2)))
noncomputable def pu1 : Nat → List C → Option C := Sx.ext pu0 19 (tabOf enc1 out1)
theorem nr1 (x : D1) : noRefs 0 (enc1 x) = true := by
  simp only [enc1,noRef_val,noRef_agg,noRef_tup,noRef_kp,noRef_sl,noRefs_cl,noRefs_cons,noRefs_nil,noRefs_app,Bool.and_self,Bool.and_true,noRef_fn,noRefs_f]
theorem ij1 (x y : D1) (h : enc1 x = enc1 y) : out1 x = out1 y := by
  simp only [enc1,List.cons.injEq,C.val.injEq,C.agg.injEq,C.kp.injEq,C.fn.injEq,str_inj,nI_inj,nU_inj,w8_inj,w32_inj,cl_inj,sl_inj,iD_inj,pC_inj,Value.int.injEq,Value.bool.injEq,true_and,and_true] at h; simp only [out1,h]
theorem ok1 {gl : Nat → C} (hgn : ∀ g,noRef 0 (gl g) = true) (hg0 : gl 0 = .kp (iD (-1,0,0))) (M : Nat) : CxOK (cxP gl M pu1) := CxOK.ext2 (N := 0) (ok0 hgn hg0 0) nr1 fun q0 => fc19 (ok0 hgn hg0 0) ((q0.1.1)) ((q0.1.2)) q0.2
theorem hno1 : ∀ (g : Nat) (xs : List C),refy xs = true → pu1 g xs = none := hno_ext hno0 nr1
theorem hit1 (n : Int) (m : Nat) (hc0 : -9223372036854775808 ≤ n ∧ n ≤ 9223372036854775807 ∧ 0 < m ∧ m ≤ 9223372036854775807) : pu1 19 [.val (.int .i64 n),.val (nI m)] = some (.val (nI (aroundI n m))) :=
  (ext_hit _).trans (tabOf_enc ij1 ⟨(n,m),hc0⟩)
abbrev D2 := {q0 : (List Int) × Nat × Nat // (LI (q0.1)) ∧ ((q0.2.1) ≤ 1000000) ∧ (0 < (q0.2.2) ∧ (q0.2.2) ≤ 9223372036854775807)}
def enc2 (q0 : D2) : List C := [sl iC .no (q0.1.1),.val (nI (q0.1.2.1)),.val (nI (q0.1.2.2))]
noncomputable def out2 (q0 : D2) : C := .val (nI (atI (q0.1.1) (q0.1.2.1) (q0.1.2.2)))
noncomputable def pu2 : Nat → List C → Option C := Sx.ext pu1 65 (tabOf enc2 out2)
theorem nr2 (x : D2) : noRefs 0 (enc2 x) = true := by
  simp only [enc2,noRef_val,noRef_agg,noRef_tup,noRef_kp,noRef_sl,noRefs_cl,noRefs_cons,noRefs_nil,noRefs_app,Bool.and_self,Bool.and_true,noRef_fn,noRefs_f]
theorem ij2 (x y : D2) (h : enc2 x = enc2 y) : out2 x = out2 y := by
  simp only [enc2,List.cons.injEq,C.val.injEq,C.agg.injEq,C.kp.injEq,C.fn.injEq,str_inj,nI_inj,nU_inj,w8_inj,w32_inj,cl_inj,sl_inj,iD_inj,pC_inj,Value.int.injEq,Value.bool.injEq,true_and,and_true] at h; simp only [out2,h]
theorem ok2 {gl : Nat → C} (hgn : ∀ g,noRef 0 (gl g) = true) (hg0 : gl 0 = .kp (iD (-1,0,0))) (M : Nat) : CxOK (cxP gl M pu2) := CxOK.ext2 (N := 0) (ok1 hgn hg0 0) nr2 fun q0 => fc65 (ok1 hgn hg0 0) (by intros; apply hit1 <;> first | assumption | omega) ((q0.1.1)) ((q0.1.2.1)) ((q0.1.2.2)) q0.2.1 q0.2.2.1 q0.2.2.2
theorem hno2 : ∀ (g : Nat) (xs : List C),refy xs = true → pu2 g xs = none := hno_ext hno1 nr2
theorem hit2 (l : List Int) (i : Nat) (m : Nat) (hc0 : LI l) (hc1 : i ≤ 1000000) (hc2 : 0 < m ∧ m ≤ 9223372036854775807) : pu2 65 [sl iC .no l,.val (nI i),.val (nI m)] = some (.val (nI (atI l i m))) :=
  (ext_hit _).trans (tabOf_enc ij2 ⟨(l,i,m),⟨hc0,hc1,hc2⟩⟩)
abbrev D3 := {q0 : (List UInt8) // ((q0).length ≤ 1000000)}
def enc3 (q0 : D3) : List C := [.val (str (q0.1))]
noncomputable def out3 (q0 : D3) : C := .val (str (capT (q0.1)))
noncomputable def pu3 : Nat → List C → Option C := Sx.ext pu2 121 (tabOf enc3 out3)
theorem nr3 (x : D3) : noRefs 0 (enc3 x) = true := by
  simp only [enc3,noRef_val,noRef_agg,noRef_tup,noRef_kp,noRef_sl,noRefs_cl,noRefs_cons,noRefs_nil,noRefs_app,Bool.and_self,Bool.and_true,noRef_fn,noRefs_f]
theorem ij3 (x y : D3) (h : enc3 x = enc3 y) : out3 x = out3 y := by
  simp only [enc3,List.cons.injEq,C.val.injEq,C.agg.injEq,C.kp.injEq,C.fn.injEq,str_inj,nI_inj,nU_inj,w8_inj,w32_inj,cl_inj,sl_inj,iD_inj,pC_inj,Value.int.injEq,Value.bool.injEq,true_and,and_true] at h; simp only [out3,h]
theorem ok3 {gl : Nat → C} (hgn : ∀ g,noRef 0 (gl g) = true) (hg0 : gl 0 = .kp (iD (-1,0,0))) (M : Nat) : CxOK (cxP gl M pu3) := CxOK.ext2 (N := 0) (ok2 hgn hg0 0) nr3 fun q0 => fc121 (ok2 hgn hg0 0) ((q0.1)) q0.2
theorem hno3 : ∀ (g : Nat) (xs : List C),refy xs = true → pu3 g xs = none := hno_ext hno2 nr3
theorem hit3 (w : List UInt8) (hc0 : w.length ≤ 1000000) : pu3 121 [.val (str w)] = some (.val (str (capT w))) :=
  (ext_hit _).trans (tabOf_enc ij3 ⟨(w),hc0⟩)
abbrev D4 := {q0 : (List UInt8) × Nat // ((q0.1).length ≤ 1000000) ∧ ((q0.2) ≤ 1000000)}
def enc4 (q0 : D4) : List C := [.val (str (q0.1.1)),.val (nI (q0.1.2))]
noncomputable def out4 (q0 : D4) : C := .val (str (dresT (q0.1.1) (q0.1.2)))
noncomputable def pu4 : Nat → List C → Option C := Sx.ext pu3 101 (tabOf enc4 out4)
theorem nr4 (x : D4) : noRefs 0 (enc4 x) = true := by
  simp only [enc4,noRef_val,noRef_agg,noRef_tup,noRef_kp,noRef_sl,noRefs_cl,noRefs_cons,noRefs_nil,noRefs_app,Bool.and_self,Bool.and_true,noRef_fn,noRefs_f]
theorem ij4 (x y : D4) (h : enc4 x = enc4 y) : out4 x = out4 y := by
  simp only [enc4,List.cons.injEq,C.val.injEq,C.agg.injEq,C.kp.injEq,C.fn.injEq,str_inj,nI_inj,nU_inj,w8_inj,w32_inj,cl_inj,sl_inj,iD_inj,pC_inj,Value.int.injEq,Value.bool.injEq,true_and,and_true] at h; simp only [out4,h]
theorem ok4 {gl : Nat → C} (hgn : ∀ g,noRef 0 (gl g) = true) (hg0 : gl 0 = .kp (iD (-1,0,0))) (M : Nat) : CxOK (cxP gl M pu4) := CxOK.ext2 (N := 0) (ok3 hgn hg0 0) nr4 fun q0 => fc101 (ok3 hgn hg0 0) (by intros; apply hit3 <;> first | assumption | omega) ((q0.1.1)) ((q0.1.2)) q0.2.1 q0.2.2
theorem hno4 : ∀ (g : Nat) (xs : List C),refy xs = true → pu4 g xs = none := hno_ext hno3 nr4
theorem hit4 (w : List UInt8) (n : Nat) (hc0 : w.length ≤ 1000000) (hc1 : n ≤ 1000000) : pu4 101 [.val (str w),.val (nI n)] = some (.val (str (dresT w n))) :=
  (ext_hit _).trans (tabOf_enc ij4 ⟨(w,n),⟨hc0,hc1⟩⟩)
abbrev D5 := {q0 : (List Int) × Nat // (LI (q0.1)) ∧ ((q0.2) ≤ 1000)}
def enc5 (q0 : D5) : List C := [sl iC .no (q0.1.1),.val (nI (q0.1.2))]
noncomputable def out5 (q0 : D5) : C := .val (str (textT (q0.1.1) (q0.1.2)))
noncomputable def pu5 : Nat → List C → Option C := Sx.ext pu4 66 (tabOf enc5 out5)
theorem nr5 (x : D5) : noRefs 0 (enc5 x) = true := by
  simp only [enc5,noRef_val,noRef_agg,noRef_tup,noRef_kp,noRef_sl,noRefs_cl,noRefs_cons,noRefs_nil,noRefs_app,Bool.and_self,Bool.and_true,noRef_fn,noRefs_f]
theorem ij5 (x y : D5) (h : enc5 x = enc5 y) : out5 x = out5 y := by
  simp only [enc5,List.cons.injEq,C.val.injEq,C.agg.injEq,C.kp.injEq,C.fn.injEq,str_inj,nI_inj,nU_inj,w8_inj,w32_inj,cl_inj,sl_inj,iD_inj,pC_inj,Value.int.injEq,Value.bool.injEq,true_and,and_true] at h; simp only [out5,h]
theorem ok5 {gl : Nat → C} (hgn : ∀ g,noRef 0 (gl g) = true) (hg0 : gl 0 = .kp (iD (-1,0,0))) (M : Nat) : CxOK (cxP gl M pu5) := CxOK.ext2 (N := 0) (ok4 hgn hg0 0) nr5 fun q0 => fc66 (ok4 hgn hg0 0) (by intros; (iterate 2 refine (ext_miss (by decide) _).trans ?_); apply hit2 <;> first | assumption | omega) (by intros; apply hit4 <;> first | assumption | omega) ((q0.1.1)) ((q0.1.2)) q0.2.1 q0.2.2
theorem hno5 : ∀ (g : Nat) (xs : List C),refy xs = true → pu5 g xs = none := hno_ext hno4 nr5
theorem hit5 (l : List Int) (k : Nat) (hc0 : LI l) (hc1 : k ≤ 1000) : pu5 66 [sl iC .no l,.val (nI k)] = some (.val (str (textT l k))) :=
  (ext_hit _).trans (tabOf_enc ij5 ⟨(l,k),⟨hc0,hc1⟩⟩)
abbrev D6 := {q0 : Unit // True}
def enc6 (q0 : D6) : List C := []
noncomputable def out6 (q0 : D6) : C := .agg [.val (.int .i64 (-1)),.val (nI 0),.val (nI 0)]
noncomputable def pu6 : Nat → List C → Option C := Sx.ext pu5 67 (tabOf enc6 out6)
theorem nr6 (x : D6) : noRefs 0 (enc6 x) = true := by
  simp only [enc6,noRef_val,noRef_agg,noRef_tup,noRef_kp,noRef_sl,noRefs_cl,noRefs_cons,noRefs_nil,noRefs_app,Bool.and_self,Bool.and_true,noRef_fn,noRefs_f]
theorem ij6 (x y : D6) (h : enc6 x = enc6 y) : out6 x = out6 y := by
  rfl
theorem ok6 {gl : Nat → C} (hgn : ∀ g,noRef 0 (gl g) = true) (hg0 : gl 0 = .kp (iD (-1,0,0))) (M : Nat) : CxOK (cxP gl M pu6) := CxOK.ext2 (N := 0) (ok5 hgn hg0 0) nr6 fun q0 => fc67 (ok5 hgn hg0 0)
theorem hno6 : ∀ (g : Nat) (xs : List C),refy xs = true → pu6 g xs = none := hno_ext hno5 nr6
theorem hit6 : pu6 67 [] = some (.agg [.val (.int .i64 (-1)),.val (nI 0),.val (nI 0)]) :=
  (ext_hit _).trans (tabOf_enc ij6 ⟨(),trivial⟩)
abbrev D7 := {q0 : (List Int) × Nat × ID // (LI (q0.1)) ∧ ((q0.2.1) ≤ 900)}
def enc7 (q0 : D7) : List C := [sl iC .no (q0.1.1),.val (nI (q0.1.2.1)),.agg (iD (q0.1.2.2))]
noncomputable def out7 (q0 : D7) : C := .agg (pC (oneP (q0.1.1) (q0.1.2.1) (q0.1.2.2)))
noncomputable def pu7 : Nat → List C → Option C := Sx.ext pu6 21 (tabOf enc7 out7)
theorem nr7 (x : D7) : noRefs 0 (enc7 x) = true := by
  simp only [enc7,noRef_val,noRef_agg,noRef_tup,noRef_kp,noRef_sl,noRefs_cl,noRefs_cons,noRefs_nil,noRefs_app,Bool.and_self,Bool.and_true,noRef_fn,noRefs_f]
theorem ij7 (x y : D7) (h : enc7 x = enc7 y) : out7 x = out7 y := by
  simp only [enc7,List.cons.injEq,C.val.injEq,C.agg.injEq,C.kp.injEq,C.fn.injEq,str_inj,nI_inj,nU_inj,w8_inj,w32_inj,cl_inj,sl_inj,iD_inj,pC_inj,Value.int.injEq,Value.bool.injEq,true_and,and_true] at h; simp only [out7,h]
theorem ok7 {gl : Nat → C} (hgn : ∀ g,noRef 0 (gl g) = true) (hg0 : gl 0 = .kp (iD (-1,0,0))) (M : Nat) : CxOK (cxP gl M pu7) := CxOK.ext2 (N := 0) (ok6 hgn hg0 0) nr7 fun q0 => fc21 (ok6 hgn hg0 0) (by intros; (iterate 4 refine (ext_miss (by decide) _).trans ?_); apply hit2 <;> first | assumption | omega) (by intros; (iterate 1 refine (ext_miss (by decide) _).trans ?_); apply hit5 <;> first | assumption | omega) (by intros; apply hit6 <;> first | assumption | omega) ((q0.1.1)) ((q0.1.2.1)) ((q0.1.2.2)) q0.2.1 q0.2.2
theorem hno7 : ∀ (g : Nat) (xs : List C),refy xs = true → pu7 g xs = none := hno_ext hno6 nr7
theorem hit7 (l : List Int) (k : Nat) (id : ID) (hc0 : LI l) (hc1 : k ≤ 900) : pu7 21 [sl iC .no l,.val (nI k),.agg (iD id)] = some (.agg (pC (oneP l k id))) :=
  (ext_hit _).trans (tabOf_enc ij7 ⟨(l,k,id),⟨hc0,hc1⟩⟩)
abbrev D8 := {q0 : (List Int) // (LI (q0))}
def enc8 (q0 : D8) : List C := [sl iC .no (q0.1)]
noncomputable def out8 (q0 : D8) : C := .agg [sl vC .no (wkW (q0.1))]
noncomputable def pu8 : Nat → List C → Option C := Sx.ext pu7 18 (tabOf enc8 out8)
theorem nr8 (x : D8) : noRefs 0 (enc8 x) = true := by
  simp only [enc8,noRef_val,noRef_agg,noRef_tup,noRef_kp,noRef_sl,noRefs_cl,noRefs_cons,noRefs_nil,noRefs_app,Bool.and_self,Bool.and_true,noRef_fn,noRefs_f]
theorem ij8 (x y : D8) (h : enc8 x = enc8 y) : out8 x = out8 y := by
  simp only [enc8,List.cons.injEq,C.val.injEq,C.agg.injEq,C.kp.injEq,C.fn.injEq,str_inj,nI_inj,nU_inj,w8_inj,w32_inj,cl_inj,sl_inj,iD_inj,pC_inj,Value.int.injEq,Value.bool.injEq,true_and,and_true] at h; simp only [out8,h]
theorem ok8 {gl : Nat → C} (hgn : ∀ g,noRef 0 (gl g) = true) (hg0 : gl 0 = .kp (iD (-1,0,0))) (M : Nat) : CxOK (cxP gl M pu8) := CxOK.ext2 (N := 0) (ok7 hgn hg0 0) nr8 fun q0 => fc18 (ok7 hgn hg0 0) (by intros; (iterate 5 refine (ext_miss (by decide) _).trans ?_); apply hit2 <;> first | assumption | omega) (by intros; (iterate 2 refine (ext_miss (by decide) _).trans ?_); apply hit5 <;> first | assumption | omega) (by intros; apply hit7 <;> first | assumption | omega) ((q0.1)) q0.2
theorem hno8 : ∀ (g : Nat) (xs : List C),refy xs = true → pu8 g xs = none := hno_ext hno7 nr8
theorem hit8 (l : List Int) (hc0 : LI l) : pu8 18 [sl iC .no l] = some (.agg [sl vC .no (wkW l)]) :=
  (ext_hit _).trans (tabOf_enc ij8 ⟨(l),hc0⟩)
abbrev D9 := {q0 : ID × ID // True}
def enc9 (q0 : D9) : List C := [.agg (iD (q0.1.1)),.agg (iD (q0.1.2))]
noncomputable def out9 (q0 : D9) : C := .val (.bool (decide ((q0.1.1) = (q0.1.2))))
noncomputable def pu9 : Nat → List C → Option C := Sx.ext pu8 60 (tabOf enc9 out9)
theorem nr9 (x : D9) : noRefs 0 (enc9 x) = true := by
  simp only [enc9,noRef_val,noRef_agg,noRef_tup,noRef_kp,noRef_sl,noRefs_cl,noRefs_cons,noRefs_nil,noRefs_app,Bool.and_self,Bool.and_true,noRef_fn,noRefs_f]
theorem ij9 (x y : D9) (h : enc9 x = enc9 y) : out9 x = out9 y := by
  simp only [enc9,List.cons.injEq,C.val.injEq,C.agg.injEq,C.kp.injEq,C.fn.injEq,str_inj,nI_inj,nU_inj,w8_inj,w32_inj,cl_inj,sl_inj,iD_inj,pC_inj,Value.int.injEq,Value.bool.injEq,true_and,and_true] at h; simp only [out9,h]
theorem ok9 {gl : Nat → C} (hgn : ∀ g,noRef 0 (gl g) = true) (hg0 : gl 0 = .kp (iD (-1,0,0))) (M : Nat) : CxOK (cxP gl M pu9) := CxOK.ext2 (N := 0) (ok8 hgn hg0 0) nr9 fun q0 => fc60 (ok8 hgn hg0 0) ((q0.1.1)) ((q0.1.2))
theorem hno9 : ∀ (g : Nat) (xs : List C),refy xs = true → pu9 g xs = none := hno_ext hno8 nr9
theorem hit9 (a : ID) (b : ID) : pu9 60 [.agg (iD a),.agg (iD b)] = some (.val (.bool (decide (a = b)))) :=
  (ext_hit _).trans (tabOf_enc ij9 ⟨(a,b),trivial⟩)
abbrev D10 := {q0 : Wrk × ID // (WB (q0.1))}
def enc10 (q0 : D10) : List C := [.agg [sl vC .no (q0.1.1)],.agg (iD (q0.1.2))]
noncomputable def out10 (q0 : D10) : C := .tup [.agg [.val (nI (fnd (q0.1.1) (q0.1.2)).1.1),.val (nI (fnd (q0.1.1) (q0.1.2)).1.2.1),.val (nI (fnd (q0.1.1) (q0.1.2)).1.2.2)],.val (.bool (fnd (q0.1.1) (q0.1.2)).2)]
noncomputable def pu10 : Nat → List C → Option C := Sx.ext pu9 33 (tabOf enc10 out10)
theorem nr10 (x : D10) : noRefs 0 (enc10 x) = true := by
  simp only [enc10,noRef_val,noRef_agg,noRef_tup,noRef_kp,noRef_sl,noRefs_cl,noRefs_cons,noRefs_nil,noRefs_app,Bool.and_self,Bool.and_true,noRef_fn,noRefs_f]
theorem ij10 (x y : D10) (h : enc10 x = enc10 y) : out10 x = out10 y := by
  simp only [enc10,List.cons.injEq,C.val.injEq,C.agg.injEq,C.kp.injEq,C.fn.injEq,str_inj,nI_inj,nU_inj,w8_inj,w32_inj,cl_inj,sl_inj,iD_inj,pC_inj,Value.int.injEq,Value.bool.injEq,true_and,and_true] at h; simp only [out10,h]
theorem ok10 {gl : Nat → C} (hgn : ∀ g,noRef 0 (gl g) = true) (hg0 : gl 0 = .kp (iD (-1,0,0))) (M : Nat) : CxOK (cxP gl M pu10) := CxOK.ext2 (N := 0) (ok9 hgn hg0 0) nr10 fun q0 => fc33 (ok9 hgn hg0 0) (by intros; apply hit9 <;> first | assumption | omega) ((q0.1.1)) ((q0.1.2)) q0.2
theorem hno10 : ∀ (g : Nat) (xs : List C),refy xs = true → pu10 g xs = none := hno_ext hno9 nr10
theorem hit10 (w : Wrk) (id : ID) (hc0 : WB w) : pu10 33 [.agg [sl vC .no w],.agg (iD id)] = some (.tup [.agg [.val (nI (fnd w id).1.1),.val (nI (fnd w id).1.2.1),.val (nI (fnd w id).1.2.2)],.val (.bool (fnd w id).2)]) :=
  (ext_hit _).trans (tabOf_enc ij10 ⟨(w,id),hc0⟩)
abbrev D11 := {q0 : Wrk × Int × Int // (WG (q0.1)) ∧ (-9223372036854775808 ≤ (q0.2.1) ∧ (q0.2.1) ≤ 9223372036854775807) ∧ (-9223372036854775808 ≤ (q0.2.2) ∧ (q0.2.2) ≤ 9223372036854775807)}
def enc11 (q0 : D11) : List C := [.agg [sl vC .no (q0.1.1)],.val (.int .i64 (q0.1.2.1)),.val (.int .i64 (q0.1.2.2))]
noncomputable def out11 (q0 : D11) : C := .agg [sl vC .no (spW (q0.1.1) (q0.1.2.1) (q0.1.2.2))]
noncomputable def pu11 : Nat → List C → Option C := Sx.ext pu10 51 (tabOf enc11 out11)
theorem nr11 (x : D11) : noRefs 0 (enc11 x) = true := by
  simp only [enc11,noRef_val,noRef_agg,noRef_tup,noRef_kp,noRef_sl,noRefs_cl,noRefs_cons,noRefs_nil,noRefs_app,Bool.and_self,Bool.and_true,noRef_fn,noRefs_f]
theorem ij11 (x y : D11) (h : enc11 x = enc11 y) : out11 x = out11 y := by
  simp only [enc11,List.cons.injEq,C.val.injEq,C.agg.injEq,C.kp.injEq,C.fn.injEq,str_inj,nI_inj,nU_inj,w8_inj,w32_inj,cl_inj,sl_inj,iD_inj,pC_inj,Value.int.injEq,Value.bool.injEq,true_and,and_true] at h; simp only [out11,h]
theorem ok11 {gl : Nat → C} (hgn : ∀ g,noRef 0 (gl g) = true) (hg0 : gl 0 = .kp (iD (-1,0,0))) (M : Nat) : CxOK (cxP gl M pu11) := CxOK.ext2 (N := 0) (ok10 hgn hg0 0) nr11 fun q0 => fc51t (ok10 hgn hg0 0) (by intros; (iterate 9 refine (ext_miss (by decide) _).trans ?_); apply hit1 <;> first | assumption | omega) (by intros; (iterate 3 refine (ext_miss (by decide) _).trans ?_); apply hit7 <;> first | assumption | omega) (by intros; apply hit10 <;> first | assumption | omega) ((q0.1.1)) ((q0.1.2.1)) ((q0.1.2.2)) q0.2.1 q0.2.2.1 q0.2.2.2
theorem hno11 : ∀ (g : Nat) (xs : List C),refy xs = true → pu11 g xs = none := hno_ext hno10 nr11
theorem hit11 (w : Wrk) (how : Int) (y : Int) (hc0 : WG w) (hc1 : -9223372036854775808 ≤ how ∧ how ≤ 9223372036854775807) (hc2 : -9223372036854775808 ≤ y ∧ y ≤ 9223372036854775807) : pu11 51 [.agg [sl vC .no w],.val (.int .i64 how),.val (.int .i64 y)] = some (.agg [sl vC .no (spW w how y)]) :=
  (ext_hit _).trans (tabOf_enc ij11 ⟨(w,how,y),⟨hc0,hc1,hc2⟩⟩)
abbrev D12 := {q0 : (List Int) × Int × Int // (LI (q0.1)) ∧ ((-9223372036854775808 ≤ (q0.2.1) ∧ (q0.2.1) ≤ 9223372036854775807)) ∧ ((-9223372036854775808 ≤ (q0.2.2) ∧ (q0.2.2) ≤ 9223372036854775807))}
def enc12 (q0 : D12) : List C := [sl iC .no (q0.1.1),.val (.int .i64 (q0.1.2.1)),.val (.int .i64 (q0.1.2.2))]
noncomputable def out12 (q0 : D12) : C := sl wkC .full (worksW (q0.1.1) (q0.1.2.1) (q0.1.2.2))
noncomputable def pu12 : Nat → List C → Option C := Sx.ext pu11 11 (tabOf enc12 out12)
theorem nr12 (x : D12) : noRefs 0 (enc12 x) = true := by
  simp only [enc12,noRef_val,noRef_agg,noRef_tup,noRef_kp,noRef_sl,noRefs_cl,noRefs_cons,noRefs_nil,noRefs_app,Bool.and_self,Bool.and_true,noRef_fn,noRefs_f]
theorem ij12 (x y : D12) (h : enc12 x = enc12 y) : out12 x = out12 y := by
  simp only [enc12,List.cons.injEq,C.val.injEq,C.agg.injEq,C.kp.injEq,C.fn.injEq,str_inj,nI_inj,nU_inj,w8_inj,w32_inj,cl_inj,sl_inj,iD_inj,pC_inj,Value.int.injEq,Value.bool.injEq,true_and,and_true] at h; simp only [out12,h]
theorem ok12 {gl : Nat → C} (hgn : ∀ g,noRef 0 (gl g) = true) (hg0 : gl 0 = .kp (iD (-1,0,0))) (M : Nat) : CxOK (cxP gl M pu12) := CxOK.ext2 (N := 0) (ok11 hgn hg0 0) nr12 fun q0 => fc11 (ok11 hgn hg0 0) (by intros; (iterate 3 refine (ext_miss (by decide) _).trans ?_); apply hit8 <;> first | assumption | omega) (by intros; apply hit11 <;> first | assumption | omega) ((q0.1.1)) ((q0.1.2.1)) ((q0.1.2.2)) q0.2.1 q0.2.2.1 q0.2.2.2
theorem hno12 : ∀ (g : Nat) (xs : List C),refy xs = true → pu12 g xs = none := hno_ext hno11 nr12
theorem hit12 (l : List Int) (how : Int) (y : Int) (hc0 : LI l) (hc1 : (-9223372036854775808 ≤ how ∧ how ≤ 9223372036854775807)) (hc2 : (-9223372036854775808 ≤ y ∧ y ≤ 9223372036854775807)) : pu12 11 [sl iC .no l,.val (.int .i64 how),.val (.int .i64 y)] = some (sl wkC .full (worksW l how y)) :=
  (ext_hit _).trans (tabOf_enc ij12 ⟨(l,how,y),⟨hc0,hc1,hc2⟩⟩)
abbrev D13 := {q0 : Wrk // (WS (q0))}
def enc13 (q0 : D13) : List C := [.agg [sl vC .no (q0.1)]]
noncomputable def out13 (q0 : D13) : C := sl pC (.own 7) (alW (q0.1))
noncomputable def pu13 : Nat → List C → Option C := Sx.ext pu12 14 (tabOf enc13 out13)
theorem nr13 (x : D13) : noRefs 0 (enc13 x) = true := by
  simp only [enc13,noRef_val,noRef_agg,noRef_tup,noRef_kp,noRef_sl,noRefs_cl,noRefs_cons,noRefs_nil,noRefs_app,Bool.and_self,Bool.and_true,noRef_fn,noRefs_f]
theorem ij13 (x y : D13) (h : enc13 x = enc13 y) : out13 x = out13 y := by
  simp only [enc13,List.cons.injEq,C.val.injEq,C.agg.injEq,C.kp.injEq,C.fn.injEq,str_inj,nI_inj,nU_inj,w8_inj,w32_inj,cl_inj,sl_inj,iD_inj,pC_inj,Value.int.injEq,Value.bool.injEq,true_and,and_true] at h; simp only [out13,h]
theorem ok13 {gl : Nat → C} (hgn : ∀ g,noRef 0 (gl g) = true) (hg0 : gl 0 = .kp (iD (-1,0,0))) (M : Nat) : CxOK (cxP gl M pu13) := CxOK.ext2 (N := 0) (ok12 hgn hg0 0) nr13 fun q0 => fc14 (ok12 hgn hg0 0) ((q0.1)) q0.2
theorem hno13 : ∀ (g : Nat) (xs : List C),refy xs = true → pu13 g xs = none := hno_ext hno12 nr13
theorem hit13 (w : Wrk) (hc0 : WS w) : pu13 14 [.agg [sl vC .no w]] = some (sl pC (.own 7) (alW w)) :=
  (ext_hit _).trans (tabOf_enc ij13 ⟨(w),hc0⟩)
abbrev D14 := {q0 : Wrk × (List Int) // (WS (q0.1)) ∧ (LI (q0.2))}
def enc14 (q0 : D14) : List C := [.agg [sl vC .no (q0.1.1)],sl iC .no (q0.1.2)]
noncomputable def out14 (q0 : D14) : C := sl iD (.own 3) (idsW (q0.1.1) (q0.1.2))
noncomputable def pu14 : Nat → List C → Option C := Sx.ext pu13 22 (tabOf enc14 out14)
theorem nr14 (x : D14) : noRefs 0 (enc14 x) = true := by
  simp only [enc14,noRef_val,noRef_agg,noRef_tup,noRef_kp,noRef_sl,noRefs_cl,noRefs_cons,noRefs_nil,noRefs_app,Bool.and_self,Bool.and_true,noRef_fn,noRefs_f]
theorem ij14 (x y : D14) (h : enc14 x = enc14 y) : out14 x = out14 y := by
  simp only [enc14,List.cons.injEq,C.val.injEq,C.agg.injEq,C.kp.injEq,C.fn.injEq,str_inj,nI_inj,nU_inj,w8_inj,w32_inj,cl_inj,sl_inj,iD_inj,pC_inj,Value.int.injEq,Value.bool.injEq,true_and,and_true] at h; simp only [out14,h]
theorem ok14 {gl : Nat → C} (hgn : ∀ g,noRef 0 (gl g) = true) (hg0 : gl 0 = .kp (iD (-1,0,0))) (M : Nat) : CxOK (cxP gl M pu14) := CxOK.ext2 (N := 0) (ok13 hgn hg0 0) nr14 fun q0 => fc22 (ok13 hgn hg0 0) (by intros; apply hit13 <;> first | assumption | omega) (by intros; (iterate 12 refine (ext_miss (by decide) _).trans ?_); apply hit1 <;> first | assumption | omega) (by intros; (iterate 11 refine (ext_miss (by decide) _).trans ?_); apply hit2 <;> first | assumption | omega) ((q0.1.1)) ((q0.1.2)) q0.2.1 q0.2.2
theorem hno14 : ∀ (g : Nat) (xs : List C),refy xs = true → pu14 g xs = none := hno_ext hno13 nr14
theorem hit14 (w : Wrk) (m : List Int) (hc0 : WS w) (hc1 : LI m) : pu14 22 [.agg [sl vC .no w],sl iC .no m] = some (sl iD (.own 3) (idsW w m)) :=
  (ext_hit _).trans (tabOf_enc ij14 ⟨(w,m),⟨hc0,hc1⟩⟩)
abbrev D15 := {q0 : Wrk // True}
def enc15 (q0 : D15) : List C := [.agg [sl vC .no (q0.1)]]
noncomputable def out15 (q0 : D15) : C := .fn 93 [.kp [sl vC .no (q0.1)]]
noncomputable def pu15 : Nat → List C → Option C := Sx.ext pu14 53 (tabOf enc15 out15)
theorem nr15 (x : D15) : noRefs 0 (enc15 x) = true := by
  simp only [enc15,noRef_val,noRef_agg,noRef_tup,noRef_kp,noRef_sl,noRefs_cl,noRefs_cons,noRefs_nil,noRefs_app,Bool.and_self,Bool.and_true,noRef_fn,noRefs_f]
theorem ij15 (x y : D15) (h : enc15 x = enc15 y) : out15 x = out15 y := by
  simp only [enc15,List.cons.injEq,C.val.injEq,C.agg.injEq,C.kp.injEq,C.fn.injEq,str_inj,nI_inj,nU_inj,w8_inj,w32_inj,cl_inj,sl_inj,iD_inj,pC_inj,Value.int.injEq,Value.bool.injEq,true_and,and_true] at h; simp only [out15,h]
theorem ok15 {gl : Nat → C} (hgn : ∀ g,noRef 0 (gl g) = true) (hg0 : gl 0 = .kp (iD (-1,0,0))) (M : Nat) : CxOK (cxP gl M pu15) := CxOK.ext2 (N := 0) (ok14 hgn hg0 0) nr15 fun q0 => fc53 (ok14 hgn hg0 0) ((q0.1))
theorem hno15 : ∀ (g : Nat) (xs : List C),refy xs = true → pu15 g xs = none := hno_ext hno14 nr15
theorem hit15 (w : Wrk) : pu15 53 [.agg [sl vC .no w]] = some (.fn 93 [.kp [sl vC .no w]]) :=
  (ext_hit _).trans (tabOf_enc ij15 ⟨(w),trivial⟩)
abbrev D16 := {q0 : (List ID) // ((q0).length ≤ 1000000)}
def enc16 (q0 : D16) : List C := [sl iD .no (q0.1)]
noncomputable def out16 (q0 : D16) : C := sl iD .no (q0.1)
noncomputable def pu16 : Nat → List C → Option C := Sx.ext pu15 102 (tabOf enc16 out16)
theorem nr16 (x : D16) : noRefs 0 (enc16 x) = true := by
  simp only [enc16,noRef_val,noRef_agg,noRef_tup,noRef_kp,noRef_sl,noRefs_cl,noRefs_cons,noRefs_nil,noRefs_app,Bool.and_self,Bool.and_true,noRef_fn,noRefs_f]
theorem ij16 (x y : D16) (h : enc16 x = enc16 y) : out16 x = out16 y := by
  simp only [enc16,List.cons.injEq,C.val.injEq,C.agg.injEq,C.kp.injEq,C.fn.injEq,str_inj,nI_inj,nU_inj,w8_inj,w32_inj,cl_inj,sl_inj,iD_inj,pC_inj,Value.int.injEq,Value.bool.injEq,true_and,and_true] at h; simp only [out16,h]
theorem ok16 {gl : Nat → C} (hgn : ∀ g,noRef 0 (gl g) = true) (hg0 : gl 0 = .kp (iD (-1,0,0))) (M : Nat) : CxOK (cxP gl M pu16) := CxOK.ext2 (N := 0) (ok15 hgn hg0 0) nr16 fun q0 => fc102 (ok15 hgn hg0 0) ((q0.1)) q0.2
theorem hno16 : ∀ (g : Nat) (xs : List C),refy xs = true → pu16 g xs = none := hno_ext hno15 nr16
theorem hit16 (l : List ID) (hc0 : l.length ≤ 1000000) : pu16 102 [sl iD .no l] = some (sl iD .no l) :=
  (ext_hit _).trans (tabOf_enc ij16 ⟨(l),hc0⟩)
abbrev D17 := {q0 : Psg // ((q0).2.2.2.2.length ≤ 1000000)}
def enc17 (q0 : D17) : List C := [.agg (pC (q0.1))]
noncomputable def out17 (q0 : D17) : C := .agg (pC (q0.1))
noncomputable def pu17 : Nat → List C → Option C := Sx.ext pu16 68 (tabOf enc17 out17)
theorem nr17 (x : D17) : noRefs 0 (enc17 x) = true := by
  simp only [enc17,noRef_val,noRef_agg,noRef_tup,noRef_kp,noRef_sl,noRefs_cl,noRefs_cons,noRefs_nil,noRefs_app,Bool.and_self,Bool.and_true,noRef_fn,noRefs_f]
theorem ij17 (x y : D17) (h : enc17 x = enc17 y) : out17 x = out17 y := by
  simp only [enc17,List.cons.injEq,C.val.injEq,C.agg.injEq,C.kp.injEq,C.fn.injEq,str_inj,nI_inj,nU_inj,w8_inj,w32_inj,cl_inj,sl_inj,iD_inj,pC_inj,Value.int.injEq,Value.bool.injEq,true_and,and_true] at h; simp only [out17,h]
theorem ok17 {gl : Nat → C} (hgn : ∀ g,noRef 0 (gl g) = true) (hg0 : gl 0 = .kp (iD (-1,0,0))) (M : Nat) : CxOK (cxP gl M pu17) := CxOK.ext2 (N := 0) (ok16 hgn hg0 0) nr17 fun q0 => fc68 (ok16 hgn hg0 0) (by intros; apply hit16 <;> first | assumption | omega) ((q0.1)) q0.2
theorem hno17 : ∀ (g : Nat) (xs : List C),refy xs = true → pu17 g xs = none := hno_ext hno16 nr17
theorem hit17 (p : Psg) (hc0 : p.2.2.2.2.length ≤ 1000000) : pu17 68 [.agg (pC p)] = some (.agg (pC p)) :=
  (ext_hit _).trans (tabOf_enc ij17 ⟨(p),hc0⟩)
abbrev D18 := {q0 : Wrk // (WS (q0))}
def enc18 (q0 : D18) : List C := [.agg [sl vC .no (q0.1)]]
noncomputable def out18 (q0 : D18) : C := sl pC .no (alW (q0.1))
noncomputable def pu18 : Nat → List C → Option C := Sx.ext pu17 24 (tabOf enc18 out18)
theorem nr18 (x : D18) : noRefs 0 (enc18 x) = true := by
  simp only [enc18,noRef_val,noRef_agg,noRef_tup,noRef_kp,noRef_sl,noRefs_cl,noRefs_cons,noRefs_nil,noRefs_app,Bool.and_self,Bool.and_true,noRef_fn,noRefs_f]
theorem ij18 (x y : D18) (h : enc18 x = enc18 y) : out18 x = out18 y := by
  simp only [enc18,List.cons.injEq,C.val.injEq,C.agg.injEq,C.kp.injEq,C.fn.injEq,str_inj,nI_inj,nU_inj,w8_inj,w32_inj,cl_inj,sl_inj,iD_inj,pC_inj,Value.int.injEq,Value.bool.injEq,true_and,and_true] at h; simp only [out18,h]
theorem ok18 {gl : Nat → C} (hgn : ∀ g,noRef 0 (gl g) = true) (hg0 : gl 0 = .kp (iD (-1,0,0))) (M : Nat) : CxOK (cxP gl M pu18) := CxOK.ext2 (N := 0) (ok17 hgn hg0 0) nr18 fun q0 => fc24 (ok17 hgn hg0 0) (by intros; (iterate 2 refine (ext_miss (by decide) _).trans ?_); apply hit15 <;> first | assumption | omega) (by intros; apply hit17 <;> first | assumption | omega) ((q0.1)) q0.2
theorem hno18 : ∀ (g : Nat) (xs : List C),refy xs = true → pu18 g xs = none := hno_ext hno17 nr18
theorem hit18 (w : Wrk) (hc0 : WS w) : pu18 24 [.agg [sl vC .no w]] = some (sl pC .no (alW w)) :=
  (ext_hit _).trans (tabOf_enc ij18 ⟨(w),hc0⟩)
abbrev D19 := {q0 : (List ID) × (List ID) // ((q0.1).length ≤ 1000000) ∧ ((q0.2).length ≤ 1000000)}
def enc19 (q0 : D19) : List C := [sl iD .no (q0.1.1),sl iD .no (q0.1.2)]
noncomputable def out19 (q0 : D19) : C := .val (.bool (decide ((q0.1.1) = (q0.1.2))))
noncomputable def pu19 : Nat → List C → Option C := Sx.ext pu18 27 (tabOf enc19 out19)
theorem nr19 (x : D19) : noRefs 0 (enc19 x) = true := by
  simp only [enc19,noRef_val,noRef_agg,noRef_tup,noRef_kp,noRef_sl,noRefs_cl,noRefs_cons,noRefs_nil,noRefs_app,Bool.and_self,Bool.and_true,noRef_fn,noRefs_f]
theorem ij19 (x y : D19) (h : enc19 x = enc19 y) : out19 x = out19 y := by
  simp only [enc19,List.cons.injEq,C.val.injEq,C.agg.injEq,C.kp.injEq,C.fn.injEq,str_inj,nI_inj,nU_inj,w8_inj,w32_inj,cl_inj,sl_inj,iD_inj,pC_inj,Value.int.injEq,Value.bool.injEq,true_and,and_true] at h; simp only [out19,h]
theorem ok19 {gl : Nat → C} (hgn : ∀ g,noRef 0 (gl g) = true) (hg0 : gl 0 = .kp (iD (-1,0,0))) (M : Nat) : CxOK (cxP gl M pu19) := CxOK.ext2 (N := 0) (ok18 hgn hg0 0) nr19 fun q0 => fc27 (ok18 hgn hg0 0) (by intros; (iterate 9 refine (ext_miss (by decide) _).trans ?_); apply hit9 <;> first | assumption | omega) ((q0.1.1)) ((q0.1.2)) q0.2.1 q0.2.2
theorem hno19 : ∀ (g : Nat) (xs : List C),refy xs = true → pu19 g xs = none := hno_ext hno18 nr19
theorem hit19 (l : List ID) (m : List ID) (hc0 : l.length ≤ 1000000) (hc1 : m.length ≤ 1000000) : pu19 27 [sl iD .no l,sl iD .no m] = some (.val (.bool (decide (l = m)))) :=
  (ext_hit _).trans (tabOf_enc ij19 ⟨(l,m),⟨hc0,hc1⟩⟩)
abbrev D20 := {q0 : Psg × Psg // ((q0.1).2.2.2.2.length ≤ 1000000) ∧ ((q0.2).2.2.2.2.length ≤ 1000000)}
def enc20 (q0 : D20) : List C := [.agg (pC (q0.1.1)),.agg (pC (q0.1.2))]
noncomputable def out20 (q0 : D20) : C := .val (.bool (decide ((q0.1.1) = (q0.1.2))))
noncomputable def pu20 : Nat → List C → Option C := Sx.ext pu19 36 (tabOf enc20 out20)
theorem nr20 (x : D20) : noRefs 0 (enc20 x) = true := by
  simp only [enc20,noRef_val,noRef_agg,noRef_tup,noRef_kp,noRef_sl,noRefs_cl,noRefs_cons,noRefs_nil,noRefs_app,Bool.and_self,Bool.and_true,noRef_fn,noRefs_f]
theorem ij20 (x y : D20) (h : enc20 x = enc20 y) : out20 x = out20 y := by
  simp only [enc20,List.cons.injEq,C.val.injEq,C.agg.injEq,C.kp.injEq,C.fn.injEq,str_inj,nI_inj,nU_inj,w8_inj,w32_inj,cl_inj,sl_inj,iD_inj,pC_inj,Value.int.injEq,Value.bool.injEq,true_and,and_true] at h; simp only [out20,h]
theorem ok20 {gl : Nat → C} (hgn : ∀ g,noRef 0 (gl g) = true) (hg0 : gl 0 = .kp (iD (-1,0,0))) (M : Nat) : CxOK (cxP gl M pu20) := CxOK.ext2 (N := 0) (ok19 hgn hg0 0) nr20 fun q0 => fc36 (ok19 hgn hg0 0) (by intros; (iterate 10 refine (ext_miss (by decide) _).trans ?_); apply hit9 <;> first | assumption | omega) (by intros; apply hit19 <;> first | assumption | omega) ((q0.1.1)) ((q0.1.2)) q0.2.1 q0.2.2
theorem hno20 : ∀ (g : Nat) (xs : List C),refy xs = true → pu20 g xs = none := hno_ext hno19 nr20
theorem hit20 (a : Psg) (b : Psg) (hc0 : a.2.2.2.2.length ≤ 1000000) (hc1 : b.2.2.2.2.length ≤ 1000000) : pu20 36 [.agg (pC a),.agg (pC b)] = some (.val (.bool (decide (a = b)))) :=
  (ext_hit _).trans (tabOf_enc ij20 ⟨(a,b),⟨hc0,hc1⟩⟩)
abbrev D21 := {q0 : (List Psg) × (List Psg) // ((q0.1).length ≤ 1000000) ∧ ((q0.2).length ≤ 1000000) ∧ ((∀ i,i < ((q0.1)).length → (gt ((q0.1)) i).2.2.2.2.length ≤ 1000000)) ∧ ((∀ i,i < ((q0.2)).length → (gt ((q0.2)) i).2.2.2.2.length ≤ 1000000))}
def enc21 (q0 : D21) : List C := [sl pC .no (q0.1.1),sl pC .no (q0.1.2)]
noncomputable def out21 (q0 : D21) : C := .val (.bool (decide ((q0.1.1) = (q0.1.2))))
noncomputable def pu21 : Nat → List C → Option C := Sx.ext pu20 23 (tabOf enc21 out21)
theorem nr21 (x : D21) : noRefs 0 (enc21 x) = true := by
  simp only [enc21,noRef_val,noRef_agg,noRef_tup,noRef_kp,noRef_sl,noRefs_cl,noRefs_cons,noRefs_nil,noRefs_app,Bool.and_self,Bool.and_true,noRef_fn,noRefs_f]
theorem ij21 (x y : D21) (h : enc21 x = enc21 y) : out21 x = out21 y := by
  simp only [enc21,List.cons.injEq,C.val.injEq,C.agg.injEq,C.kp.injEq,C.fn.injEq,str_inj,nI_inj,nU_inj,w8_inj,w32_inj,cl_inj,sl_inj,iD_inj,pC_inj,Value.int.injEq,Value.bool.injEq,true_and,and_true] at h; simp only [out21,h]
theorem ok21 {gl : Nat → C} (hgn : ∀ g,noRef 0 (gl g) = true) (hg0 : gl 0 = .kp (iD (-1,0,0))) (M : Nat) : CxOK (cxP gl M pu21) := CxOK.ext2 (N := 0) (ok20 hgn hg0 0) nr21 fun q0 => fc23 (ok20 hgn hg0 0) (by intros; apply hit20 <;> first | assumption | omega) ((q0.1.1)) ((q0.1.2)) q0.2.1 q0.2.2.1 q0.2.2.2.1 q0.2.2.2.2
theorem hno21 : ∀ (g : Nat) (xs : List C),refy xs = true → pu21 g xs = none := hno_ext hno20 nr21
theorem hit21 (l : List Psg) (m : List Psg) (hc0 : l.length ≤ 1000000) (hc1 : m.length ≤ 1000000) (hc2 : (∀ i,i < (l).length → (gt (l) i).2.2.2.2.length ≤ 1000000)) (hc3 : (∀ i,i < (m).length → (gt (m) i).2.2.2.2.length ≤ 1000000)) : pu21 23 [sl pC .no l,sl pC .no m] = some (.val (.bool (decide (l = m)))) :=
  (ext_hit _).trans (tabOf_enc ij21 ⟨(l,m),⟨hc0,hc1,hc2,hc3⟩⟩)
abbrev D22 := {q0 : Wrk // (WS (q0)) ∧ (nA (q0) (q0).length ≤ 1000000)}
def enc22 (q0 : D22) : List C := [.agg [sl vC .no (q0.1)]]
noncomputable def out22 (q0 : D22) : C := .agg [.val (nI (q0.1).length),.val (nI (nA (q0.1) (q0.1).length)),.val (nI (alW (q0.1)).length)]
noncomputable def pu22 : Nat → List C → Option C := Sx.ext pu21 25 (tabOf enc22 out22)
theorem nr22 (x : D22) : noRefs 0 (enc22 x) = true := by
  simp only [enc22,noRef_val,noRef_agg,noRef_tup,noRef_kp,noRef_sl,noRefs_cl,noRefs_cons,noRefs_nil,noRefs_app,Bool.and_self,Bool.and_true,noRef_fn,noRefs_f]
theorem ij22 (x y : D22) (h : enc22 x = enc22 y) : out22 x = out22 y := by
  simp only [enc22,List.cons.injEq,C.val.injEq,C.agg.injEq,C.kp.injEq,C.fn.injEq,str_inj,nI_inj,nU_inj,w8_inj,w32_inj,cl_inj,sl_inj,iD_inj,pC_inj,Value.int.injEq,Value.bool.injEq,true_and,and_true] at h; simp only [out22,h]
theorem ok22 {gl : Nat → C} (hgn : ∀ g,noRef 0 (gl g) = true) (hg0 : gl 0 = .kp (iD (-1,0,0))) (M : Nat) : CxOK (cxP gl M pu22) := CxOK.ext2 (N := 0) (ok21 hgn hg0 0) nr22 fun q0 => fc25 (ok21 hgn hg0 0) ((q0.1)) q0.2.1 q0.2.2
theorem hno22 : ∀ (g : Nat) (xs : List C),refy xs = true → pu22 g xs = none := hno_ext hno21 nr22
theorem hit22 (w : Wrk) (hc0 : WS w) (hc1 : nA w w.length ≤ 1000000) : pu22 25 [.agg [sl vC .no w]] = some (.agg [.val (nI w.length),.val (nI (nA w w.length)),.val (nI (alW w).length)]) :=
  (ext_hit _).trans (tabOf_enc ij22 ⟨(w),⟨hc0,hc1⟩⟩)
abbrev D23 := {q0 : Wrk // (WG (q0))}
def enc23 (q0 : D23) : List C := [.agg [sl vC .no (q0.1)]]
noncomputable def out23 (q0 : D23) : C := .agg [.val (nI (q0.1).length),.val (nI (nA (q0.1) (q0.1).length)),.val (nI (alW (q0.1)).length)]
noncomputable def pu23 : Nat → List C → Option C := Sx.ext pu22 26 (tabOf enc23 out23)
theorem nr23 (x : D23) : noRefs 0 (enc23 x) = true := by
  simp only [enc23,noRef_val,noRef_agg,noRef_tup,noRef_kp,noRef_sl,noRefs_cl,noRefs_cons,noRefs_nil,noRefs_app,Bool.and_self,Bool.and_true,noRef_fn,noRefs_f]
theorem ij23 (x y : D23) (h : enc23 x = enc23 y) : out23 x = out23 y := by
  simp only [enc23,List.cons.injEq,C.val.injEq,C.agg.injEq,C.kp.injEq,C.fn.injEq,str_inj,nI_inj,nU_inj,w8_inj,w32_inj,cl_inj,sl_inj,iD_inj,pC_inj,Value.int.injEq,Value.bool.injEq,true_and,and_true] at h; simp only [out23,h]
theorem ok23 {gl : Nat → C} (hgn : ∀ g,noRef 0 (gl g) = true) (hg0 : gl 0 = .kp (iD (-1,0,0))) (M : Nat) : CxOK (cxP gl M pu23) := CxOK.ext2 (N := 0) (ok22 hgn hg0 0) nr23 fun q0 => fc26 (ok22 hgn hg0 0) (by intros; (iterate 9 refine (ext_miss (by decide) _).trans ?_); apply hit13 <;> first | assumption | omega) ((q0.1)) q0.2
theorem hno23 : ∀ (g : Nat) (xs : List C),refy xs = true → pu23 g xs = none := hno_ext hno22 nr23
theorem hit23 (w : Wrk) (hc0 : WG w) : pu23 26 [.agg [sl vC .no w]] = some (.agg [.val (nI w.length),.val (nI (nA w w.length)),.val (nI (alW w).length)]) :=
  (ext_hit _).trans (tabOf_enc ij23 ⟨(w),hc0⟩)
abbrev D24 := {q0 : Wrk × (List ID) // (WS (q0.1)) ∧ (∀ x ∈ (q0.2),IdOk x) ∧ ((q0.2).length ≤ 1000000) ∧ (∀ i,i < (rdW (q0.1)).length → IdOk (gt (rdW (q0.1)) i).2.1)}
def enc24 (q0 : D24) : List C := [.agg [sl vC .no (q0.1.1)],sl iD .no (q0.1.2)]
noncomputable def out24 (q0 : D24) : C := sl iD .no (ordS (insL (q0.1.2)) (alW (q0.1.1))).2
noncomputable def pu24 : Nat → List C → Option C := Sx.ext pu23 28 (tabOf enc24 out24)
theorem nr24 (x : D24) : noRefs 0 (enc24 x) = true := by
  simp only [enc24,noRef_val,noRef_agg,noRef_tup,noRef_kp,noRef_sl,noRefs_cl,noRefs_cons,noRefs_nil,noRefs_app,Bool.and_self,Bool.and_true,noRef_fn,noRefs_f]
theorem ij24 (x y : D24) (h : enc24 x = enc24 y) : out24 x = out24 y := by
  simp only [enc24,List.cons.injEq,C.val.injEq,C.agg.injEq,C.kp.injEq,C.fn.injEq,str_inj,nI_inj,nU_inj,w8_inj,w32_inj,cl_inj,sl_inj,iD_inj,pC_inj,Value.int.injEq,Value.bool.injEq,true_and,and_true] at h; simp only [out24,h]
theorem ok24 {gl : Nat → C} (hgn : ∀ g,noRef 0 (gl g) = true) (hg0 : gl 0 = .kp (iD (-1,0,0))) (M : Nat) : CxOK (cxP gl M pu24) := CxOK.ext2 (N := 0) (ok23 hgn hg0 0) nr24 fun q0 => fc28 (cxM_of (ok23 hgn hg0 0)) (by intros; (iterate 8 refine (ext_miss (by decide) _).trans ?_); apply hit15 <;> first | assumption | omega) ((q0.1.1)) ((q0.1.2)) q0.2.1 q0.2.2.1 q0.2.2.2.1 q0.2.2.2.2
theorem hno24 : ∀ (g : Nat) (xs : List C),refy xs = true → pu24 g xs = none := hno_ext hno23 nr24
theorem hit24 (w : Wrk) (l : List ID) (hc0 : WS w) (hc1 : ∀ x ∈ l,IdOk x) (hc2 : l.length ≤ 1000000) (hc3 : ∀ i,i < (rdW w).length → IdOk (gt (rdW w) i).2.1) : pu24 28 [.agg [sl vC .no w],sl iD .no l] = some (sl iD .no (ordS (insL l) (alW w)).2) :=
  (ext_hit _).trans (tabOf_enc ij24 ⟨(w,l),⟨hc0,hc1,hc2,hc3⟩⟩)
abbrev D25 := {q0 : (List ID) × ID // ((q0.1).length ≤ 1000000)}
def enc25 (q0 : D25) : List C := [sl iD .no (q0.1.1),.agg (iD (q0.1.2))]
noncomputable def out25 (q0 : D25) : C := .val (.bool (decide ((q0.1.2) ∈ (q0.1.1))))
noncomputable def pu25 : Nat → List C → Option C := Sx.ext pu24 37 (tabOf enc25 out25)
theorem nr25 (x : D25) : noRefs 0 (enc25 x) = true := by
  simp only [enc25,noRef_val,noRef_agg,noRef_tup,noRef_kp,noRef_sl,noRefs_cl,noRefs_cons,noRefs_nil,noRefs_app,Bool.and_self,Bool.and_true,noRef_fn,noRefs_f]
theorem ij25 (x y : D25) (h : enc25 x = enc25 y) : out25 x = out25 y := by
  simp only [enc25,List.cons.injEq,C.val.injEq,C.agg.injEq,C.kp.injEq,C.fn.injEq,str_inj,nI_inj,nU_inj,w8_inj,w32_inj,cl_inj,sl_inj,iD_inj,pC_inj,Value.int.injEq,Value.bool.injEq,true_and,and_true] at h; simp only [out25,h]
theorem ok25 {gl : Nat → C} (hgn : ∀ g,noRef 0 (gl g) = true) (hg0 : gl 0 = .kp (iD (-1,0,0))) (M : Nat) : CxOK (cxP gl M pu25) := CxOK.ext2 (N := 0) (ok24 hgn hg0 0) nr25 fun q0 => fc37 (ok24 hgn hg0 0) (by intros; (iterate 15 refine (ext_miss (by decide) _).trans ?_); apply hit9 <;> first | assumption | omega) ((q0.1.1)) ((q0.1.2)) q0.2
theorem hno25 : ∀ (g : Nat) (xs : List C),refy xs = true → pu25 g xs = none := hno_ext hno24 nr25
theorem hit25 (l : List ID) (x : ID) (hc0 : l.length ≤ 1000000) : pu25 37 [sl iD .no l,.agg (iD x)] = some (.val (.bool (decide (x ∈ l)))) :=
  (ext_hit _).trans (tabOf_enc ij25 ⟨(l,x),hc0⟩)
abbrev D26 := {q0 : Wrk × (List ID) // (WG (q0.1)) ∧ ((q0.2).length ≤ 1000000)}
def enc26 (q0 : D26) : List C := [.agg [sl vC .no (q0.1.1)],sl iD .no (q0.1.2)]
noncomputable def out26 (q0 : D26) : C := sl iD (.own 3) (ordR (q0.1.2) (alW (q0.1.1)) (alW (q0.1.1)).length)
noncomputable def pu26 : Nat → List C → Option C := Sx.ext pu25 29 (tabOf enc26 out26)
theorem nr26 (x : D26) : noRefs 0 (enc26 x) = true := by
  simp only [enc26,noRef_val,noRef_agg,noRef_tup,noRef_kp,noRef_sl,noRefs_cl,noRefs_cons,noRefs_nil,noRefs_app,Bool.and_self,Bool.and_true,noRef_fn,noRefs_f]
theorem ij26 (x y : D26) (h : enc26 x = enc26 y) : out26 x = out26 y := by
  simp only [enc26,List.cons.injEq,C.val.injEq,C.agg.injEq,C.kp.injEq,C.fn.injEq,str_inj,nI_inj,nU_inj,w8_inj,w32_inj,cl_inj,sl_inj,iD_inj,pC_inj,Value.int.injEq,Value.bool.injEq,true_and,and_true] at h; simp only [out26,h]
theorem ok26 {gl : Nat → C} (hgn : ∀ g,noRef 0 (gl g) = true) (hg0 : gl 0 = .kp (iD (-1,0,0))) (M : Nat) : CxOK (cxP gl M pu26) := CxOK.ext2 (N := 0) (ok25 hgn hg0 0) nr26 fun q0 => fc29 (ok25 hgn hg0 0) (by intros; (iterate 12 refine (ext_miss (by decide) _).trans ?_); apply hit13 <;> first | assumption | omega) (by intros; apply hit25 <;> first | assumption | omega) ((q0.1.1)) ((q0.1.2)) q0.2.1 q0.2.2
theorem hno26 : ∀ (g : Nat) (xs : List C),refy xs = true → pu26 g xs = none := hno_ext hno25 nr26
theorem hit26 (w : Wrk) (m : List ID) (hc0 : WG w) (hc1 : m.length ≤ 1000000) : pu26 29 [.agg [sl vC .no w],sl iD .no m] = some (sl iD (.own 3) (ordR m (alW w) (alW w).length)) :=
  (ext_hit _).trans (tabOf_enc ij26 ⟨(w,m),⟨hc0,hc1⟩⟩)
abbrev D27 := {q0 : Wrk × ID × ID // (WS (q0.1)) ∧ (IdOk (q0.2.1)) ∧ (IdOk (q0.2.2)) ∧ (∀ i,i < (rdW (q0.1)).length → IdOk (gt (rdW (q0.1)) i).2.1)}
def enc27 (q0 : D27) : List C := [.agg [sl vC .no (q0.1.1)],.agg (iD (q0.1.2.1)),.agg (iD (q0.1.2.2))]
noncomputable def out27 (q0 : D27) : C := .val (.bool (decide ((ordS (insL [(q0.1.2.1),(q0.1.2.2)]) (alW (q0.1.1))).2.length = 2 ∧ gt (ordS (insL [(q0.1.2.1),(q0.1.2.2)]) (alW (q0.1.1))).2 0 = (q0.1.2.1))))
noncomputable def pu27 : Nat → List C → Option C := Sx.ext pu26 30 (tabOf enc27 out27)
theorem nr27 (x : D27) : noRefs 0 (enc27 x) = true := by
  simp only [enc27,noRef_val,noRef_agg,noRef_tup,noRef_kp,noRef_sl,noRefs_cl,noRefs_cons,noRefs_nil,noRefs_app,Bool.and_self,Bool.and_true,noRef_fn,noRefs_f]
theorem ij27 (x y : D27) (h : enc27 x = enc27 y) : out27 x = out27 y := by
  simp only [enc27,List.cons.injEq,C.val.injEq,C.agg.injEq,C.kp.injEq,C.fn.injEq,str_inj,nI_inj,nU_inj,w8_inj,w32_inj,cl_inj,sl_inj,iD_inj,pC_inj,Value.int.injEq,Value.bool.injEq,true_and,and_true] at h; simp only [out27,h]
theorem ok27 {gl : Nat → C} (hgn : ∀ g,noRef 0 (gl g) = true) (hg0 : gl 0 = .kp (iD (-1,0,0))) (M : Nat) : CxOK (cxP gl M pu27) := CxOK.ext2 (N := 0) (ok26 hgn hg0 0) nr27 fun q0 => fc30 (ok26 hgn hg0 0) (by intros; (iterate 2 refine (ext_miss (by decide) _).trans ?_); apply hit24 <;> first | assumption | omega) ((q0.1.1)) ((q0.1.2.1)) ((q0.1.2.2)) q0.2.1 q0.2.2.1 q0.2.2.2.1 q0.2.2.2.2
theorem hno27 : ∀ (g : Nat) (xs : List C),refy xs = true → pu27 g xs = none := hno_ext hno26 nr27
theorem hit27 (w : Wrk) (a : ID) (b : ID) (hc0 : WS w) (hc1 : IdOk a) (hc2 : IdOk b) (hc3 : ∀ i,i < (rdW w).length → IdOk (gt (rdW w) i).2.1) : pu27 30 [.agg [sl vC .no w],.agg (iD a),.agg (iD b)] = some (.val (.bool (decide ((ordS (insL [a,b]) (alW w)).2.length = 2 ∧ gt (ordS (insL [a,b]) (alW w)).2 0 = a)))) :=
  (ext_hit _).trans (tabOf_enc ij27 ⟨(w,a,b),⟨hc0,hc1,hc2,hc3⟩⟩)
abbrev D28 := {q0 : (List Psg) × ID // ((q0.1).length ≤ 1000000)}
def enc28 (q0 : D28) : List C := [sl pC .no (q0.1.1),.agg (iD (q0.1.2))]
noncomputable def out28 (q0 : D28) : C := .val (.int .i64 (ixI (q0.1.1) (q0.1.2)))
noncomputable def pu28 : Nat → List C → Option C := Sx.ext pu27 69 (tabOf enc28 out28)
theorem nr28 (x : D28) : noRefs 0 (enc28 x) = true := by
  simp only [enc28,noRef_val,noRef_agg,noRef_tup,noRef_kp,noRef_sl,noRefs_cl,noRefs_cons,noRefs_nil,noRefs_app,Bool.and_self,Bool.and_true,noRef_fn,noRefs_f]
theorem ij28 (x y : D28) (h : enc28 x = enc28 y) : out28 x = out28 y := by
  simp only [enc28,List.cons.injEq,C.val.injEq,C.agg.injEq,C.kp.injEq,C.fn.injEq,str_inj,nI_inj,nU_inj,w8_inj,w32_inj,cl_inj,sl_inj,iD_inj,pC_inj,Value.int.injEq,Value.bool.injEq,true_and,and_true] at h; simp only [out28,h]
theorem ok28 {gl : Nat → C} (hgn : ∀ g,noRef 0 (gl g) = true) (hg0 : gl 0 = .kp (iD (-1,0,0))) (M : Nat) : CxOK (cxP gl M pu28) := CxOK.ext2 (N := 0) (ok27 hgn hg0 0) nr28 fun q0 => fc69 (ok27 hgn hg0 0) (by intros; (iterate 18 refine (ext_miss (by decide) _).trans ?_); apply hit9 <;> first | assumption | omega) ((q0.1.1)) ((q0.1.2)) q0.2
theorem hno28 : ∀ (g : Nat) (xs : List C),refy xs = true → pu28 g xs = none := hno_ext hno27 nr28
theorem hit28 (l : List Psg) (x : ID) (hc0 : l.length ≤ 1000000) : pu28 69 [sl pC .no l,.agg (iD x)] = some (.val (.int .i64 (ixI l x))) :=
  (ext_hit _).trans (tabOf_enc ij28 ⟨(l,x),hc0⟩)
abbrev D29 := {q0 : Wrk × ID × ID // (WG (q0.1))}
def enc29 (q0 : D29) : List C := [.agg [sl vC .no (q0.1.1)],.agg (iD (q0.1.2.1)),.agg (iD (q0.1.2.2))]
noncomputable def out29 (q0 : D29) : C := .val (.bool (decide (0 ≤ ixI (alW (q0.1.1)) (q0.1.2.1) ∧ 0 ≤ ixI (alW (q0.1.1)) (q0.1.2.2) ∧ ixI (alW (q0.1.1)) (q0.1.2.1) < ixI (alW (q0.1.1)) (q0.1.2.2))))
noncomputable def pu29 : Nat → List C → Option C := Sx.ext pu28 31 (tabOf enc29 out29)
theorem nr29 (x : D29) : noRefs 0 (enc29 x) = true := by
  simp only [enc29,noRef_val,noRef_agg,noRef_tup,noRef_kp,noRef_sl,noRefs_cl,noRefs_cons,noRefs_nil,noRefs_app,Bool.and_self,Bool.and_true,noRef_fn,noRefs_f]
theorem ij29 (x y : D29) (h : enc29 x = enc29 y) : out29 x = out29 y := by
  simp only [enc29,List.cons.injEq,C.val.injEq,C.agg.injEq,C.kp.injEq,C.fn.injEq,str_inj,nI_inj,nU_inj,w8_inj,w32_inj,cl_inj,sl_inj,iD_inj,pC_inj,Value.int.injEq,Value.bool.injEq,true_and,and_true] at h; simp only [out29,h]
theorem ok29 {gl : Nat → C} (hgn : ∀ g,noRef 0 (gl g) = true) (hg0 : gl 0 = .kp (iD (-1,0,0))) (M : Nat) : CxOK (cxP gl M pu29) := CxOK.ext2 (N := 0) (ok28 hgn hg0 0) nr29 fun q0 => fc31 (ok28 hgn hg0 0) (by intros; (iterate 15 refine (ext_miss (by decide) _).trans ?_); apply hit13 <;> first | assumption | omega) (by intros; apply hit28 <;> first | assumption | omega) ((q0.1.1)) ((q0.1.2.1)) ((q0.1.2.2)) q0.2
theorem hno29 : ∀ (g : Nat) (xs : List C),refy xs = true → pu29 g xs = none := hno_ext hno28 nr29
theorem hit29 (w : Wrk) (a : ID) (b : ID) (hc0 : WG w) : pu29 31 [.agg [sl vC .no w],.agg (iD a),.agg (iD b)] = some (.val (.bool (decide (0 ≤ ixI (alW w) a ∧ 0 ≤ ixI (alW w) b ∧ ixI (alW w) a < ixI (alW w) b)))) :=
  (ext_hit _).trans (tabOf_enc ij29 ⟨(w,a,b),hc0⟩)
abbrev D30 := {q0 : Wrk // (WS (q0))}
def enc30 (q0 : D30) : List C := [.agg [sl vC .no (q0.1)]]
noncomputable def out30 (q0 : D30) : C := .val (.bool (largeW (q0.1)))
noncomputable def pu30 : Nat → List C → Option C := Sx.ext pu29 52 (tabOf enc30 out30)
theorem nr30 (x : D30) : noRefs 0 (enc30 x) = true := by
  simp only [enc30,noRef_val,noRef_agg,noRef_tup,noRef_kp,noRef_sl,noRefs_cl,noRefs_cons,noRefs_nil,noRefs_app,Bool.and_self,Bool.and_true,noRef_fn,noRefs_f]
theorem ij30 (x y : D30) (h : enc30 x = enc30 y) : out30 x = out30 y := by
  simp only [enc30,List.cons.injEq,C.val.injEq,C.agg.injEq,C.kp.injEq,C.fn.injEq,str_inj,nI_inj,nU_inj,w8_inj,w32_inj,cl_inj,sl_inj,iD_inj,pC_inj,Value.int.injEq,Value.bool.injEq,true_and,and_true] at h; simp only [out30,h]
theorem ok30 {gl : Nat → C} (hgn : ∀ g,noRef 0 (gl g) = true) (hg0 : gl 0 = .kp (iD (-1,0,0))) (M : Nat) : CxOK (cxP gl M pu30) := CxOK.ext2 (N := 0) (ok29 hgn hg0 0) nr30 fun q0 => fc52 (ok29 hgn hg0 0) ((q0.1)) q0.2
theorem hno30 : ∀ (g : Nat) (xs : List C),refy xs = true → pu30 g xs = none := hno_ext hno29 nr30
theorem hit30 (w : Wrk) (hc0 : WS w) : pu30 52 [.agg [sl vC .no w]] = some (.val (.bool (largeW w))) :=
  (ext_hit _).trans (tabOf_enc ij30 ⟨(w),hc0⟩)
abbrev D31 := {q0 : ID // True}
def enc31 (q0 : D31) : List C := [.agg (iD (q0.1))]
noncomputable def out31 (q0 : D31) : C := .val (.bool (okI (q0.1)))
noncomputable def pu31 : Nat → List C → Option C := Sx.ext pu30 94 (tabOf enc31 out31)
theorem nr31 (x : D31) : noRefs 0 (enc31 x) = true := by
  simp only [enc31,noRef_val,noRef_agg,noRef_tup,noRef_kp,noRef_sl,noRefs_cl,noRefs_cons,noRefs_nil,noRefs_app,Bool.and_self,Bool.and_true,noRef_fn,noRefs_f]
theorem ij31 (x y : D31) (h : enc31 x = enc31 y) : out31 x = out31 y := by
  simp only [enc31,List.cons.injEq,C.val.injEq,C.agg.injEq,C.kp.injEq,C.fn.injEq,str_inj,nI_inj,nU_inj,w8_inj,w32_inj,cl_inj,sl_inj,iD_inj,pC_inj,Value.int.injEq,Value.bool.injEq,true_and,and_true] at h; simp only [out31,h]
theorem ok31 {gl : Nat → C} (hgn : ∀ g,noRef 0 (gl g) = true) (hg0 : gl 0 = .kp (iD (-1,0,0))) (M : Nat) : CxOK (cxP gl M pu31) := CxOK.ext2 (N := 0) (ok30 hgn hg0 0) nr31 fun q0 => fc94 (ok30 hgn hg0 0) ((q0.1))
theorem hno31 : ∀ (g : Nat) (xs : List C),refy xs = true → pu31 g xs = none := hno_ext hno30 nr31
theorem hit31 (x : ID) : pu31 94 [.agg (iD x)] = some (.val (.bool (okI x))) :=
  (ext_hit _).trans (tabOf_enc ij31 ⟨(x),trivial⟩)
abbrev D32 := {q0 : UInt8 // True}
def enc32 (q0 : D32) : List C := [.val (w8 (q0.1))]
noncomputable def out32 (q0 : D32) : C := .val (nI (kd (q0.1)))
noncomputable def pu32 : Nat → List C → Option C := Sx.ext pu31 100 (tabOf enc32 out32)
theorem nr32 (x : D32) : noRefs 0 (enc32 x) = true := by
  simp only [enc32,noRef_val,noRef_agg,noRef_tup,noRef_kp,noRef_sl,noRefs_cl,noRefs_cons,noRefs_nil,noRefs_app,Bool.and_self,Bool.and_true,noRef_fn,noRefs_f]
theorem ij32 (x y : D32) (h : enc32 x = enc32 y) : out32 x = out32 y := by
  simp only [enc32,List.cons.injEq,C.val.injEq,C.agg.injEq,C.kp.injEq,C.fn.injEq,str_inj,nI_inj,nU_inj,w8_inj,w32_inj,cl_inj,sl_inj,iD_inj,pC_inj,Value.int.injEq,Value.bool.injEq,true_and,and_true] at h; simp only [out32,h]
theorem ok32 {gl : Nat → C} (hgn : ∀ g,noRef 0 (gl g) = true) (hg0 : gl 0 = .kp (iD (-1,0,0))) (M : Nat) : CxOK (cxP gl M pu32) := CxOK.ext2 (N := 0) (ok31 hgn hg0 0) nr32 fun q0 => fc100 (ok31 hgn hg0 0) ((q0.1))
theorem hno32 : ∀ (g : Nat) (xs : List C),refy xs = true → pu32 g xs = none := hno_ext hno31 nr32
theorem hit32 (c : UInt8) : pu32 100 [.val (w8 c)] = some (.val (nI (kd c))) :=
  (ext_hit _).trans (tabOf_enc ij32 ⟨(c),trivial⟩)
abbrev D33 := {q0 : (List UInt8) × Nat // ((q0.2) < (q0.1).length ∧ (q0.1).length ≤ 1000000)}
def enc33 (q0 : D33) : List C := [.val (nI (q0.1.2)),.kp [.val (str (q0.1.1))]]
noncomputable def out33 (q0 : D33) : C := .val (nI (endT (q0.1.1) (q0.1.2)))
noncomputable def pu33 : Nat → List C → Option C := Sx.ext pu32 99 (tabOf enc33 out33)
theorem nr33 (x : D33) : noRefs 0 (enc33 x) = true := by
  simp only [enc33,noRef_val,noRef_agg,noRef_tup,noRef_kp,noRef_sl,noRefs_cl,noRefs_cons,noRefs_nil,noRefs_app,Bool.and_self,Bool.and_true,noRef_fn,noRefs_f]
theorem ij33 (x y : D33) (h : enc33 x = enc33 y) : out33 x = out33 y := by
  simp only [enc33,List.cons.injEq,C.val.injEq,C.agg.injEq,C.kp.injEq,C.fn.injEq,str_inj,nI_inj,nU_inj,w8_inj,w32_inj,cl_inj,sl_inj,iD_inj,pC_inj,Value.int.injEq,Value.bool.injEq,true_and,and_true] at h; simp only [out33,h]
theorem ok33 {gl : Nat → C} (hgn : ∀ g,noRef 0 (gl g) = true) (hg0 : gl 0 = .kp (iD (-1,0,0))) (M : Nat) : CxOK (cxP gl M pu33) := CxOK.ext2 (N := 0) (ok32 hgn hg0 0) nr33 fun q0 => fc99 (ok32 hgn hg0 0) (by intros; apply hit32 <;> first | assumption | omega) ((q0.1.1)) ((q0.1.2)) q0.2
theorem hno33 : ∀ (g : Nat) (xs : List C),refy xs = true → pu33 g xs = none := hno_ext hno32 nr33
theorem hit33 (s : List UInt8) (i : Nat) (hc0 : i < s.length ∧ s.length ≤ 1000000) : pu33 99 [.val (nI i),.kp [.val (str s)]] = some (.val (nI (endT s i))) :=
  (ext_hit _).trans (tabOf_enc ij33 ⟨(s,i),hc0⟩)
abbrev D34 := {q0 : (List UInt8) // ((q0).length ≤ 1000000)}
def enc34 (q0 : D34) : List C := [.val (str (q0.1))]
noncomputable def out34 (q0 : D34) : C := sl tC (.own 3) (toks (q0.1))
noncomputable def pu34 : Nat → List C → Option C := Sx.ext pu33 62 (tabOf enc34 out34)
theorem nr34 (x : D34) : noRefs 0 (enc34 x) = true := by
  simp only [enc34,noRef_val,noRef_agg,noRef_tup,noRef_kp,noRef_sl,noRefs_cl,noRefs_cons,noRefs_nil,noRefs_app,Bool.and_self,Bool.and_true,noRef_fn,noRefs_f]
theorem ij34 (x y : D34) (h : enc34 x = enc34 y) : out34 x = out34 y := by
  simp only [enc34,List.cons.injEq,C.val.injEq,C.agg.injEq,C.kp.injEq,C.fn.injEq,str_inj,nI_inj,nU_inj,w8_inj,w32_inj,cl_inj,sl_inj,iD_inj,pC_inj,Value.int.injEq,Value.bool.injEq,true_and,and_true] at h; simp only [out34,h]
theorem ok34 {gl : Nat → C} (hgn : ∀ g,noRef 0 (gl g) = true) (hg0 : gl 0 = .kp (iD (-1,0,0))) (M : Nat) : CxOK (cxP gl M pu34) := CxOK.ext2 (N := 0) (ok33 hgn hg0 0) nr34 fun q0 => fc62 (ok33 hgn hg0 0) (by intros; apply hit33 <;> first | assumption | omega) (by intros; (iterate 1 refine (ext_miss (by decide) _).trans ?_); apply hit32 <;> first | assumption | omega) hno33 ((q0.1)) q0.2
theorem hno34 : ∀ (g : Nat) (xs : List C),refy xs = true → pu34 g xs = none := hno_ext hno33 nr34
theorem hit34 (s : List UInt8) (hc0 : s.length ≤ 1000000) : pu34 62 [.val (str s)] = some (sl tC (.own 3) (toks s)) :=
  (ext_hit _).trans (tabOf_enc ij34 ⟨(s),hc0⟩)
abbrev D35 := {q0 : (List UInt8) × Nat // ((q0.2) < (q0.1).length ∧ (q0.1).length ≤ 1000000)}
def enc35 (q0 : D35) : List C := [.val (nI (q0.1.2)),.kp [.val (str (q0.1.1))]]
noncomputable def out35 (q0 : D35) : C := .val (.bool (badAt (q0.1.1) (q0.1.2)))
noncomputable def pu35 : Nat → List C → Option C := Sx.ext pu34 61 (tabOf enc35 out35)
theorem nr35 (x : D35) : noRefs 0 (enc35 x) = true := by
  simp only [enc35,noRef_val,noRef_agg,noRef_tup,noRef_kp,noRef_sl,noRefs_cl,noRefs_cons,noRefs_nil,noRefs_app,Bool.and_self,Bool.and_true,noRef_fn,noRefs_f]
theorem ij35 (x y : D35) (h : enc35 x = enc35 y) : out35 x = out35 y := by
  simp only [enc35,List.cons.injEq,C.val.injEq,C.agg.injEq,C.kp.injEq,C.fn.injEq,str_inj,nI_inj,nU_inj,w8_inj,w32_inj,cl_inj,sl_inj,iD_inj,pC_inj,Value.int.injEq,Value.bool.injEq,true_and,and_true] at h; simp only [out35,h]
theorem ok35 {gl : Nat → C} (hgn : ∀ g,noRef 0 (gl g) = true) (hg0 : gl 0 = .kp (iD (-1,0,0))) (M : Nat) : CxOK (cxP gl M pu35) := CxOK.ext2 (N := 0) (ok34 hgn hg0 0) nr35 fun q0 => fc61 (ok34 hgn hg0 0) ((q0.1.1)) ((q0.1.2)) q0.2
theorem hno35 : ∀ (g : Nat) (xs : List C),refy xs = true → pu35 g xs = none := hno_ext hno34 nr35
theorem hit35 (s : List UInt8) (i : Nat) (hc0 : i < s.length ∧ s.length ≤ 1000000) : pu35 61 [.val (nI i),.kp [.val (str s)]] = some (.val (.bool (badAt s i))) :=
  (ext_hit _).trans (tabOf_enc ij35 ⟨(s,i),hc0⟩)
abbrev D36 := {q0 : (List UInt8) // ((q0).length ≤ 1000000)}
def enc36 (q0 : D36) : List C := [.val (str (q0.1))]
noncomputable def out36 (q0 : D36) : C := .val (nI (validE (q0.1)))
noncomputable def pu36 : Nat → List C → Option C := Sx.ext pu35 15 (tabOf enc36 out36)
theorem nr36 (x : D36) : noRefs 0 (enc36 x) = true := by
  simp only [enc36,noRef_val,noRef_agg,noRef_tup,noRef_kp,noRef_sl,noRefs_cl,noRefs_cons,noRefs_nil,noRefs_app,Bool.and_self,Bool.and_true,noRef_fn,noRefs_f]
theorem ij36 (x y : D36) (h : enc36 x = enc36 y) : out36 x = out36 y := by
  simp only [enc36,List.cons.injEq,C.val.injEq,C.agg.injEq,C.kp.injEq,C.fn.injEq,str_inj,nI_inj,nU_inj,w8_inj,w32_inj,cl_inj,sl_inj,iD_inj,pC_inj,Value.int.injEq,Value.bool.injEq,true_and,and_true] at h; simp only [out36,h]
theorem ok36 {gl : Nat → C} (hgn : ∀ g,noRef 0 (gl g) = true) (hg0 : gl 0 = .kp (iD (-1,0,0))) (M : Nat) : CxOK (cxP gl M pu36) := CxOK.ext2 (N := 0) (ok35 hgn hg0 0) nr36 fun q0 => fc15 (ok35 hgn hg0 0) (by intros; (iterate 1 refine (ext_miss (by decide) _).trans ?_); apply hit34 <;> first | assumption | omega) (by intros; apply hit35 <;> first | assumption | omega) hno35 ((q0.1)) q0.2
theorem hit36 (s : List UInt8) (hc0 : s.length ≤ 1000000) : pu36 15 [.val (str s)] = some (.val (nI (validE s))) :=
  (ext_hit _).trans (tabOf_enc ij36 ⟨(s),hc0⟩)
abbrev D37 := {q0 : (List Tok) × Nat // ((q0.1).length ≤ 1000000)}
def enc37 (q0 : D37) : List C := [sl tC .no (q0.1.1),.val (nI (q0.1.2))]
noncomputable def out37 (q0 : D37) : C := sl nC (.own 1) (ofK (q0.1.2) (q0.1.1))
noncomputable def pu37 : Nat → List C → Option C := Sx.ext pu36 63 (tabOf enc37 out37)
theorem nr37 (x : D37) : noRefs 0 (enc37 x) = true := by
  simp only [enc37,noRef_val,noRef_agg,noRef_tup,noRef_kp,noRef_sl,noRefs_cl,noRefs_cons,noRefs_nil,noRefs_app,Bool.and_self,Bool.and_true,noRef_fn,noRefs_f]
theorem ij37 (x y : D37) (h : enc37 x = enc37 y) : out37 x = out37 y := by
  simp only [enc37,List.cons.injEq,C.val.injEq,C.agg.injEq,C.kp.injEq,C.fn.injEq,str_inj,nI_inj,nU_inj,w8_inj,w32_inj,cl_inj,sl_inj,iD_inj,pC_inj,Value.int.injEq,Value.bool.injEq,true_and,and_true] at h; simp only [out37,h]
theorem ok37 {gl : Nat → C} (hgn : ∀ g,noRef 0 (gl g) = true) (hg0 : gl 0 = .kp (iD (-1,0,0))) (M : Nat) : CxOK (cxP gl M pu37) := CxOK.ext2 (N := 0) (ok36 hgn hg0 0) nr37 fun q0 => fc63 (ok36 hgn hg0 0) ((q0.1.1)) ((q0.1.2)) q0.2
theorem hit37 (l : List Tok) (k : Nat) (hc0 : l.length ≤ 1000000) : pu37 63 [sl tC .no l,.val (nI k)] = some (sl nC (.own 1) (ofK k l)) :=
  (ext_hit _).trans (tabOf_enc ij37 ⟨(l,k),hc0⟩)
abbrev D38 := {q0 : (List UInt8) // ((q0).length ≤ 1000000)}
def enc38 (q0 : D38) : List C := [.val (str (q0.1))]
noncomputable def out38 (q0 : D38) : C := sl nC (.own 1) (marksT (q0.1))
noncomputable def pu38 : Nat → List C → Option C := Sx.ext pu37 16 (tabOf enc38 out38)
theorem nr38 (x : D38) : noRefs 0 (enc38 x) = true := by
  simp only [enc38,noRef_val,noRef_agg,noRef_tup,noRef_kp,noRef_sl,noRefs_cl,noRefs_cons,noRefs_nil,noRefs_app,Bool.and_self,Bool.and_true,noRef_fn,noRefs_f]
theorem ij38 (x y : D38) (h : enc38 x = enc38 y) : out38 x = out38 y := by
  simp only [enc38,List.cons.injEq,C.val.injEq,C.agg.injEq,C.kp.injEq,C.fn.injEq,str_inj,nI_inj,nU_inj,w8_inj,w32_inj,cl_inj,sl_inj,iD_inj,pC_inj,Value.int.injEq,Value.bool.injEq,true_and,and_true] at h; simp only [out38,h]
theorem ok38 {gl : Nat → C} (hgn : ∀ g,noRef 0 (gl g) = true) (hg0 : gl 0 = .kp (iD (-1,0,0))) (M : Nat) : CxOK (cxP gl M pu38) := CxOK.ext2 (N := 0) (ok37 hgn hg0 0) nr38 fun q0 => fc16 (ok37 hgn hg0 0) (by intros; (iterate 3 refine (ext_miss (by decide) _).trans ?_); apply hit34 <;> first | assumption | omega) (by intros; apply hit37 <;> first | assumption | omega) ((q0.1)) q0.2
theorem hit38 (s : List UInt8) (hc0 : s.length ≤ 1000000) : pu38 16 [.val (str s)] = some (sl nC (.own 1) (marksT s)) :=
  (ext_hit _).trans (tabOf_enc ij38 ⟨(s),hc0⟩)
abbrev D39 := {q0 : Psg // ((q0).2.2.2.1.length ≤ 1000000) ∧ ((q0).2.2.2.2.length ≤ 1000000)}
def enc39 (q0 : D39) : List C := [.agg (pC (q0.1))]
noncomputable def out39 (q0 : D39) : C := .val (.bool (ordP (q0.1)))
noncomputable def pu39 : Nat → List C → Option C := Sx.ext pu38 54 (tabOf enc39 out39)
theorem nr39 (x : D39) : noRefs 0 (enc39 x) = true := by
  simp only [enc39,noRef_val,noRef_agg,noRef_tup,noRef_kp,noRef_sl,noRefs_cl,noRefs_cons,noRefs_nil,noRefs_app,Bool.and_self,Bool.and_true,noRef_fn,noRefs_f]
theorem ij39 (x y : D39) (h : enc39 x = enc39 y) : out39 x = out39 y := by
  simp only [enc39,List.cons.injEq,C.val.injEq,C.agg.injEq,C.kp.injEq,C.fn.injEq,str_inj,nI_inj,nU_inj,w8_inj,w32_inj,cl_inj,sl_inj,iD_inj,pC_inj,Value.int.injEq,Value.bool.injEq,true_and,and_true] at h; simp only [out39,h]
theorem ok39 {gl : Nat → C} (hgn : ∀ g,noRef 0 (gl g) = true) (hg0 : gl 0 = .kp (iD (-1,0,0))) (M : Nat) : CxOK (cxP gl M pu39) := CxOK.ext2 (N := 0) (ok38 hgn hg0 0) nr39 fun q0 => fc54 (ok38 hgn hg0 0) hg0 (by intros; (iterate 7 refine (ext_miss (by decide) _).trans ?_); apply hit31 <;> first | assumption | omega) (by intros; (iterate 2 refine (ext_miss (by decide) _).trans ?_); apply hit36 <;> first | assumption | omega) (by intros; apply hit38 <;> first | assumption | omega) ((q0.1)) q0.2.1 q0.2.2
theorem hit39 (p : Psg) (hc0 : p.2.2.2.1.length ≤ 1000000) (hc1 : p.2.2.2.2.length ≤ 1000000) : pu39 54 [.agg (pC p)] = some (.val (.bool (ordP p))) :=
  (ext_hit _).trans (tabOf_enc ij39 ⟨(p),⟨hc0,hc1⟩⟩)
abbrev D40 := {q0 : Wrk // (WB (q0)) ∧ (∀ v a,v < (q0).length → a < (gt (q0) v).length → (gt (gt (q0) v) a).1.length ≤ 1000000)}
def enc40 (q0 : D40) : List C := [.agg [sl vC .no (q0.1)]]
noncomputable def out40 (q0 : D40) : C := .val (.bool (titW (q0.1)))
noncomputable def pu40 : Nat → List C → Option C := Sx.ext pu39 55 (tabOf enc40 out40)
theorem nr40 (x : D40) : noRefs 0 (enc40 x) = true := by
  simp only [enc40,noRef_val,noRef_agg,noRef_tup,noRef_kp,noRef_sl,noRefs_cl,noRefs_cons,noRefs_nil,noRefs_app,Bool.and_self,Bool.and_true,noRef_fn,noRefs_f]
theorem ij40 (x y : D40) (h : enc40 x = enc40 y) : out40 x = out40 y := by
  simp only [enc40,List.cons.injEq,C.val.injEq,C.agg.injEq,C.kp.injEq,C.fn.injEq,str_inj,nI_inj,nU_inj,w8_inj,w32_inj,cl_inj,sl_inj,iD_inj,pC_inj,Value.int.injEq,Value.bool.injEq,true_and,and_true] at h; simp only [out40,h]
theorem ok40 {gl : Nat → C} (hgn : ∀ g,noRef 0 (gl g) = true) (hg0 : gl 0 = .kp (iD (-1,0,0))) (M : Nat) : CxOK (cxP gl M pu40) := CxOK.ext2 (N := 0) (ok39 hgn hg0 0) nr40 fun q0 => fc55 (ok39 hgn hg0 0) (by intros; (iterate 3 refine (ext_miss (by decide) _).trans ?_); apply hit36 <;> first | assumption | omega) (by intros; (iterate 1 refine (ext_miss (by decide) _).trans ?_); apply hit38 <;> first | assumption | omega) ((q0.1)) q0.2.1 q0.2.2
theorem hit40 (w : Wrk) (hc0 : WB w) (hc1 : ∀ v a,v < w.length → a < (gt w v).length → (gt (gt w v) a).1.length ≤ 1000000) : pu40 55 [.agg [sl vC .no w]] = some (.val (.bool (titW w))) :=
  (ext_hit _).trans (tabOf_enc ij40 ⟨(w),⟨hc0,hc1⟩⟩)
abbrev D41 := {q0 : Wrk // (WS (q0)) ∧ (∀ i,i < (rdW (q0)).length → (gt (rdW (q0)) i).2.2.2.2.1.length ≤ 1000000) ∧ (∀ v a,v < (q0).length → a < (gt (q0) v).length → (gt (gt (q0) v) a).1.length ≤ 1000000) ∧ (∀ i,i < (rdW (q0)).length → IdOk (gt (rdW (q0)) i).2.1)}
def enc41 (q0 : D41) : List C := [.agg [sl vC .no (q0.1)]]
noncomputable def out41 (q0 : D41) : C := .val (nI (valW (q0.1)))
noncomputable def pu41 : Nat → List C → Option C := Sx.ext pu40 12 (tabOf enc41 out41)
theorem nr41 (x : D41) : noRefs 0 (enc41 x) = true := by
  simp only [enc41,noRef_val,noRef_agg,noRef_tup,noRef_kp,noRef_sl,noRefs_cl,noRefs_cons,noRefs_nil,noRefs_app,Bool.and_self,Bool.and_true,noRef_fn,noRefs_f]
theorem ij41 (x y : D41) (h : enc41 x = enc41 y) : out41 x = out41 y := by
  simp only [enc41,List.cons.injEq,C.val.injEq,C.agg.injEq,C.kp.injEq,C.fn.injEq,str_inj,nI_inj,nU_inj,w8_inj,w32_inj,cl_inj,sl_inj,iD_inj,pC_inj,Value.int.injEq,Value.bool.injEq,true_and,and_true] at h; simp only [out41,h]
theorem ok41 {gl : Nat → C} (hgn : ∀ g,noRef 0 (gl g) = true) (hg0 : gl 0 = .kp (iD (-1,0,0))) (M : Nat) : CxOK (cxP gl M pu41) := CxOK.ext2 (N := 0) (ok40 hgn hg0 0) nr41 fun q0 => fc12 (cxM_of (ok40 hgn hg0 0)) (by intros; (iterate 10 refine (ext_miss (by decide) _).trans ?_); apply hit30 <;> first | assumption | omega) (by intros; (iterate 25 refine (ext_miss (by decide) _).trans ?_); apply hit15 <;> first | assumption | omega) (by intros; (iterate 1 refine (ext_miss (by decide) _).trans ?_); apply hit39 <;> first | assumption | omega) (by intros; apply hit40 <;> first | assumption | omega) ((q0.1)) q0.2.1 q0.2.2.1 q0.2.2.2.1 q0.2.2.2.2
theorem hit41 (w : Wrk) (hc0 : WS w) (hc1 : ∀ i,i < (rdW w).length → (gt (rdW w) i).2.2.2.2.1.length ≤ 1000000) (hc2 : ∀ v a,v < w.length → a < (gt w v).length → (gt (gt w v) a).1.length ≤ 1000000) (hc3 : ∀ i,i < (rdW w).length → IdOk (gt (rdW w) i).2.1) : pu41 12 [.agg [sl vC .no w]] = some (.val (nI (valW w))) :=
  (ext_hit _).trans (tabOf_enc ij41 ⟨(w),⟨hc0,hc1,hc2,hc3⟩⟩)
abbrev D42 := {q0 : Wrk × ID // (WB (q0.1))}
def enc42 (q0 : D42) : List C := [.agg [sl vC .no (q0.1.1)],.agg (iD (q0.1.2))]
noncomputable def out42 (q0 : D42) : C := .tup [.agg [.val (nI (fnd (q0.1.1) (q0.1.2)).1.1),.val (nI (fnd (q0.1.1) (q0.1.2)).1.2.1),.val (nI (fnd (q0.1.1) (q0.1.2)).1.2.2)],.val (.bool (fnd (q0.1.1) (q0.1.2)).2)]
noncomputable def pu42 : Nat → List C → Option C := Sx.ext pu41 32 (tabOf enc42 out42)
theorem nr42 (x : D42) : noRefs 0 (enc42 x) = true := by
  simp only [enc42,noRef_val,noRef_agg,noRef_tup,noRef_kp,noRef_sl,noRefs_cl,noRefs_cons,noRefs_nil,noRefs_app,Bool.and_self,Bool.and_true,noRef_fn,noRefs_f]
theorem ij42 (x y : D42) (h : enc42 x = enc42 y) : out42 x = out42 y := by
  simp only [enc42,List.cons.injEq,C.val.injEq,C.agg.injEq,C.kp.injEq,C.fn.injEq,str_inj,nI_inj,nU_inj,w8_inj,w32_inj,cl_inj,sl_inj,iD_inj,pC_inj,Value.int.injEq,Value.bool.injEq,true_and,and_true] at h; simp only [out42,h]
theorem ok42 {gl : Nat → C} (hgn : ∀ g,noRef 0 (gl g) = true) (hg0 : gl 0 = .kp (iD (-1,0,0))) (M : Nat) : CxOK (cxP gl M pu42) := CxOK.ext2 (N := 0) (ok41 hgn hg0 0) nr42 fun q0 => fc32 (ok41 hgn hg0 0) (by intros; (iterate 26 refine (ext_miss (by decide) _).trans ?_); apply hit15 <;> first | assumption | omega) ((q0.1.1)) ((q0.1.2)) q0.2
theorem hit42 (w : Wrk) (id : ID) (hc0 : WB w) : pu42 32 [.agg [sl vC .no w],.agg (iD id)] = some (.tup [.agg [.val (nI (fnd w id).1.1),.val (nI (fnd w id).1.2.1),.val (nI (fnd w id).1.2.2)],.val (.bool (fnd w id).2)]) :=
  (ext_hit _).trans (tabOf_enc ij42 ⟨(w,id),hc0⟩)
abbrev D43 := {q0 : Unit // True}
def enc43 (q0 : D43) : List C := []
noncomputable def out43 (q0 : D43) : C := .val (.bool true)
noncomputable def pu43 : Nat → List C → Option C := Sx.ext pu42 17 (tabOf enc43 out43)
theorem nr43 (x : D43) : noRefs 0 (enc43 x) = true := by
  simp only [enc43,noRef_val,noRef_agg,noRef_tup,noRef_kp,noRef_sl,noRefs_cl,noRefs_cons,noRefs_nil,noRefs_app,Bool.and_self,Bool.and_true,noRef_fn,noRefs_f]
theorem ij43 (x y : D43) (h : enc43 x = enc43 y) : out43 x = out43 y := by
  rfl
theorem ok43 {gl : Nat → C} (hgn : ∀ g,noRef 0 (gl g) = true) (hg0 : gl 0 = .kp (iD (-1,0,0))) (M : Nat) : CxOK (cxP gl M pu43) := CxOK.ext2 (N := 0) (ok42 hgn hg0 0) nr43 fun q0 => fc17 (okMk hgn (ok42 hgn hg0 0)) (fun xs => by rw [pu42,ext_miss (by decide),pu41,ext_miss (by decide),pu40,ext_miss (by decide),pu39,ext_miss (by decide),pu38,ext_miss (by decide),pu37,ext_miss (by decide),pu36,ext_miss (by decide),pu35,ext_miss (by decide),pu34,ext_miss (by decide),pu33,ext_miss (by decide),pu32,ext_miss (by decide),pu31,ext_miss (by decide),pu30,ext_miss (by decide),pu29,ext_miss (by decide),pu28,ext_miss (by decide),pu27,ext_miss (by decide),pu26,ext_miss (by decide),pu25,ext_miss (by decide),pu24,ext_miss (by decide),pu23,ext_miss (by decide),pu22,ext_miss (by decide),pu21,ext_miss (by decide),pu20,ext_miss (by decide),pu19,ext_miss (by decide),pu18,ext_miss (by decide),pu17,ext_miss (by decide),pu16,ext_miss (by decide),pu15,ext_miss (by decide),pu14,ext_miss (by decide),pu13,ext_miss (by decide),pu12,ext_miss (by decide),pu11,ext_miss (by decide),pu10,ext_miss (by decide),pu9,ext_miss (by decide),pu8,ext_miss (by decide),pu7,ext_miss (by decide),pu6,ext_miss (by decide),pu5,ext_miss (by decide),pu4,ext_miss (by decide),pu3,ext_miss (by decide),pu2,ext_miss (by decide),pu1,ext_miss (by decide)]; rfl) (hq64_of hgn) (by intros; (iterate 23 refine (ext_miss (by decide) _).trans ?_); apply hit19 <;> first | assumption | omega) (by intros; (iterate 18 refine (ext_miss (by decide) _).trans ?_); apply hit24 <;> first | assumption | omega) (by intros; (iterate 15 refine (ext_miss (by decide) _).trans ?_); apply hit27 <;> first | assumption | omega) (by intros; (iterate 1 refine (ext_miss (by decide) _).trans ?_); apply hit41 <;> first | assumption | omega) (by intros; apply hit42 <;> first | assumption | omega) (by intros; (iterate 20 refine (ext_miss (by decide) _).trans ?_); apply hit22 <;> first | assumption | omega)
theorem hit43 : pu43 17 [] = some (.val (.bool true)) :=
  (ext_hit _).trans (tabOf_enc ij43 ⟨(),trivial⟩)
theorem law5 {gl : Nat → C} (hgn : ∀ g,noRef 0 (gl g) = true) (hg0 : gl 0 = .kp (iD (-1,0,0))) (l : List Int) (how : Int) (y : Int) (m : List Int) (hc0 : LI l) (hc1 : (-9223372036854775808 ≤ how ∧ how ≤ 9223372036854775807)) (hc2 : (-9223372036854775808 ≤ y ∧ y ≤ 9223372036854775807)) (hc3 : LI m) : FC Tryd.prog gl 5 [sl iC .no l,.val (.int .i64 how),.val (.int .i64 y),sl iC .no m] [] (.val (.bool true)) [] := fc5 (ok43 hgn hg0 0) (by intros; (iterate 31 refine (ext_miss (by decide) _).trans ?_); apply hit12 <;> first | assumption | omega) (by intros; (iterate 29 refine (ext_miss (by decide) _).trans ?_); apply hit14 <;> first | assumption | omega) (by intros; (iterate 25 refine (ext_miss (by decide) _).trans ?_); apply hit18 <;> first | assumption | omega) (by intros; (iterate 30 refine (ext_miss (by decide) _).trans ?_); apply hit13 <;> first | assumption | omega) (by intros; (iterate 22 refine (ext_miss (by decide) _).trans ?_); apply hit21 <;> first | assumption | omega) (by intros; (iterate 21 refine (ext_miss (by decide) _).trans ?_); apply hit22 <;> first | assumption | omega) (by intros; (iterate 20 refine (ext_miss (by decide) _).trans ?_); apply hit23 <;> first | assumption | omega) (by intros; (iterate 19 refine (ext_miss (by decide) _).trans ?_); apply hit24 <;> first | assumption | omega) (by intros; (iterate 17 refine (ext_miss (by decide) _).trans ?_); apply hit26 <;> first | assumption | omega) (by intros; (iterate 24 refine (ext_miss (by decide) _).trans ?_); apply hit19 <;> first | assumption | omega) (by intros; (iterate 16 refine (ext_miss (by decide) _).trans ?_); apply hit27 <;> first | assumption | omega) (by intros; (iterate 14 refine (ext_miss (by decide) _).trans ?_); apply hit29 <;> first | assumption | omega) (by intros; apply hit43 <;> first | assumption | omega) (l) (how) (y) (m) hc0 hc1 hc2 hc3
end Go.Sx.T5
