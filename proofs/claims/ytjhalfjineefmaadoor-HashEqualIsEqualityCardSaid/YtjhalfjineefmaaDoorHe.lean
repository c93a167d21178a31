/-
  Package hash: all contracts together. Package hash: the contracts that the other three laws take.
-/
import Derived.Test.YtjhalfjineefmaaDoorHa
import Derived.Test.YtjhalfjineefmaaDoorHb
import Derived.Test.YtjhalfjineefmaaDoorHc
import Derived.Test.YtjhalfjineefmaaDoorHd
set_option linter.unusedSimpArgs false
set_option linter.unusedVariables false
namespace Go.Sx
open Go.RowKit Go.Proofs
theorem S8_inj {s t : S8} : s.l = t.l ↔ s = t := by
  constructor
  · intro h
    obtain ⟨a, b, c, d, e, f, g, i⟩ := s
    obtain ⟨a', b', c', d', e', f', g', i'⟩ := t
    simpa [S8.l] using h
  · rintro rfl; rfl
theorem cells_inj {s s' : S8} {b b' : List UInt8} {n n' : Nat} (hb : b.length = 64) (hb' : b'.length = 64) (h : cl wC s.l ++ (cl bC b ++ [C.val (nU n)]) = cl wC s'.l ++ (cl bC b' ++ [C.val (nU n')])) : s = s' ∧ b = b' ∧ n = n' := by
  rw [app_inj (f := wC) (by rw [S8.l_len, S8.l_len]), app_inj (f := bC) (by rw [hb, hb'])] at h
  simp only [S8_inj, List.cons.injEq, C.val.injEq, nU_inj, and_true] at h
  exact h
theorem feed_out (s s' : S8) (b b' : List UInt8) (n n' : Nat) (t t' : List UInt8) (hb : b.length = 64) (hb' : b'.length = 64)
    (h : [C.agg (cl wC s.l ++ (cl bC b ++ [C.val (nU n)])), C.val (str t)] = [C.agg (cl wC s'.l ++ (cl bC b' ++ [C.val (nU n')])), C.val (str t')]) : C.agg (feed ⟨s, b, n⟩ t).cells = C.agg (feed ⟨s', b', n'⟩ t').cells := by
  simp only [List.cons.injEq, C.agg.injEq, C.val.injEq, str_inj, and_true] at h
  obtain ⟨rfl, rfl, rfl⟩ := cells_inj hb hb' h.1
  rw [h.2]
theorem sum_out (s s' : S8) (b b' : List UInt8) (n n' : Nat) (hb : b.length = 64) (hb' : b'.length = 64)
    (h : [C.agg (cl wC s.l ++ (cl bC b ++ [C.val (nU n)]))] = [C.agg (cl wC s'.l ++ (cl bC b' ++ [C.val (nU n')]))]) : C.agg (cl bC (sumF ⟨s, b, n⟩)) = C.agg (cl bC (sumF ⟨s', b', n'⟩)) := by
  simp only [List.cons.injEq, C.agg.injEq, and_true] at h
  obtain ⟨rfl, rfl, rfl⟩ := cells_inj hb hb' h
  rfl


def pu0 : Nat → List C → Option C := fun _ _ => none
theorem ok0 {gl : Nat → C} (hgn : ∀ g, noRef 0 (gl g) = true) (hg0 : gl 0 = .kp (cl wC kc)) (hg1 : gl 1 = .kp (cl wC kc)) (M : Nat) : CxOK (cxP gl M pu0) := CxOK.zero hgn
theorem hno0 : ∀ (g : Nat) (xs : List C), refy xs = true → pu0 g xs = none := hno_zero

abbrev D1 := {x : (BitVec 32) × Int // True}
def enc1 (x : D1) : List C := [.val (w32 (x.1.1)), .val (.int .i64 (x.1.2))]
def out1 (x : D1) : C := .val (w32 (rotl (x.1.1) (((x.1.2) % 18446744073709551616).toNat % 32)))
noncomputable def pu1 : Nat → List C → Option C := Sx.ext pu0 40 (tabOf enc1 out1)
theorem nr1 (x : D1) : noRefs 0 (enc1 x) = true := by
  simp only [enc1, noRef_val, noRef_agg, noRef_tup, noRef_kp, noRef_sl, noRefs_cl, noRefs_cons, noRefs_nil, noRefs_app, Bool.and_self, Bool.and_true]
theorem ij1 (x y : D1) (h : enc1 x = enc1 y) : out1 x = out1 y := by
  simp only [enc1, List.cons.injEq, C.val.injEq, C.agg.injEq, C.kp.injEq, str_inj, nI_inj, nU_inj, w8_inj, w32_inj, cl_inj, sl_inj, Value.int.injEq, Value.bool.injEq, true_and, and_true] at h; simp only [out1, h]
theorem ok1 {gl : Nat → C} (hgn : ∀ g, noRef 0 (gl g) = true) (hg0 : gl 0 = .kp (cl wC kc)) (hg1 : gl 1 = .kp (cl wC kc)) (M : Nat) : CxOK (cxP gl M pu1) := CxOK.ext2 (N := 0) (ok0 hgn hg0 hg1 0) nr1 fun x => fc40 (ok0 hgn hg0 hg1 0)  ((x.1.1)) ((x.1.2))
theorem hno1 : ∀ (g : Nat) (xs : List C), refy xs = true → pu1 g xs = none := hno_ext hno0 nr1
theorem hit1 (x : BitVec 32) (k : Int)  : pu1 40 [.val (w32 x), .val (.int .i64 k)] = some (.val (w32 (rotl x ((k % 18446744073709551616).toNat % 32)))) :=
  (ext_hit _).trans (tabOf_enc ij1 ⟨(x, k), trivial⟩)

abbrev D2 := {x : (BitVec 32) × Nat × Nat × Nat // (0 < (x.2.1) ∧ (x.2.1) < 32) ∧ (0 < (x.2.2.1) ∧ (x.2.2.1) < 32) ∧ (0 < (x.2.2.2) ∧ (x.2.2.2) < 32)}
def enc2 (x : D2) : List C := [.val (w32 (x.1.1)), .val (nI (x.1.2.1)), .val (nI (x.1.2.2.1)), .val (nI (x.1.2.2.2))]
def out2 (x : D2) : C := .val (w32 (rr (x.1.1) (x.1.2.1) ^^^ rr (x.1.1) (x.1.2.2.1) ^^^ rr (x.1.1) (x.1.2.2.2)))
noncomputable def pu2 : Nat → List C → Option C := Sx.ext pu1 37 (tabOf enc2 out2)
theorem nr2 (x : D2) : noRefs 0 (enc2 x) = true := by
  simp only [enc2, noRef_val, noRef_agg, noRef_tup, noRef_kp, noRef_sl, noRefs_cl, noRefs_cons, noRefs_nil, noRefs_app, Bool.and_self, Bool.and_true]
theorem ij2 (x y : D2) (h : enc2 x = enc2 y) : out2 x = out2 y := by
  simp only [enc2, List.cons.injEq, C.val.injEq, C.agg.injEq, C.kp.injEq, str_inj, nI_inj, nU_inj, w8_inj, w32_inj, cl_inj, sl_inj, Value.int.injEq, Value.bool.injEq, true_and, and_true] at h; simp only [out2, h]
theorem ok2 {gl : Nat → C} (hgn : ∀ g, noRef 0 (gl g) = true) (hg0 : gl 0 = .kp (cl wC kc)) (hg1 : gl 1 = .kp (cl wC kc)) (M : Nat) : CxOK (cxP gl M pu2) := CxOK.ext2 (N := 0) (ok1 hgn hg0 hg1 0) nr2 fun x => fc37 (ok1 hgn hg0 hg1 0) (show ∀ x k, pu1 40 [.val (w32 x), .val (.int .i64 k)] = some (.val (w32 (rotl x ((k % 18446744073709551616).toNat % 32)))) from by intros; apply hit1 <;> assumption) ((x.1.1)) ((x.1.2.1)) ((x.1.2.2.1)) ((x.1.2.2.2)) x.2.1 x.2.2.1 x.2.2.2
theorem hno2 : ∀ (g : Nat) (xs : List C), refy xs = true → pu2 g xs = none := hno_ext hno1 nr2
theorem hit2 (x : BitVec 32) (i : Nat) (j : Nat) (k : Nat) (hc0 : 0 < i ∧ i < 32) (hc1 : 0 < j ∧ j < 32) (hc2 : 0 < k ∧ k < 32) : pu2 37 [.val (w32 x), .val (nI i), .val (nI j), .val (nI k)] = some (.val (w32 (rr x i ^^^ rr x j ^^^ rr x k))) :=
  (ext_hit _).trans (tabOf_enc ij2 ⟨(x, i, j, k), ⟨hc0, hc1, hc2⟩⟩)

abbrev D3 := {x : (BitVec 32) × Nat // ((x.2) < 32)}
def enc3 (x : D3) : List C := [.val (w32 (x.1.1)), .val (nI (x.1.2))]
def out3 (x : D3) : C := .val (w32 (rr (x.1.1) (x.1.2)))
noncomputable def pu3 : Nat → List C → Option C := Sx.ext pu2 29 (tabOf enc3 out3)
theorem nr3 (x : D3) : noRefs 0 (enc3 x) = true := by
  simp only [enc3, noRef_val, noRef_agg, noRef_tup, noRef_kp, noRef_sl, noRefs_cl, noRefs_cons, noRefs_nil, noRefs_app, Bool.and_self, Bool.and_true]
theorem ij3 (x y : D3) (h : enc3 x = enc3 y) : out3 x = out3 y := by
  simp only [enc3, List.cons.injEq, C.val.injEq, C.agg.injEq, C.kp.injEq, str_inj, nI_inj, nU_inj, w8_inj, w32_inj, cl_inj, sl_inj, Value.int.injEq, Value.bool.injEq, true_and, and_true] at h; simp only [out3, h]
theorem ok3 {gl : Nat → C} (hgn : ∀ g, noRef 0 (gl g) = true) (hg0 : gl 0 = .kp (cl wC kc)) (hg1 : gl 1 = .kp (cl wC kc)) (M : Nat) : CxOK (cxP gl M pu3) := CxOK.ext2 (N := 0) (ok2 hgn hg0 hg1 0) nr3 fun x => fc29 (ok2 hgn hg0 hg1 0)  ((x.1.1)) ((x.1.2)) x.2
theorem hno3 : ∀ (g : Nat) (xs : List C), refy xs = true → pu3 g xs = none := hno_ext hno2 nr3
theorem hit3 (x : BitVec 32) (n : Nat) (hc0 : n < 32) : pu3 29 [.val (w32 x), .val (nI n)] = some (.val (w32 (rr x n))) :=
  (ext_hit _).trans (tabOf_enc ij3 ⟨(x, n), hc0⟩)

abbrev D4 := {x : (List UInt8) // ((x).length = 64)}
def enc4 (x : D4) : List C := [sl bC .no (x.1)]
def out4 (x : D4) : C := .agg (cl wC (sched (x.1) 64))
noncomputable def pu4 : Nat → List C → Option C := Sx.ext pu3 36 (tabOf enc4 out4)
theorem nr4 (x : D4) : noRefs 0 (enc4 x) = true := by
  simp only [enc4, noRef_val, noRef_agg, noRef_tup, noRef_kp, noRef_sl, noRefs_cl, noRefs_cons, noRefs_nil, noRefs_app, Bool.and_self, Bool.and_true]
theorem ij4 (x y : D4) (h : enc4 x = enc4 y) : out4 x = out4 y := by
  simp only [enc4, List.cons.injEq, C.val.injEq, C.agg.injEq, C.kp.injEq, str_inj, nI_inj, nU_inj, w8_inj, w32_inj, cl_inj, sl_inj, Value.int.injEq, Value.bool.injEq, true_and, and_true] at h; simp only [out4, h]
theorem ok4 {gl : Nat → C} (hgn : ∀ g, noRef 0 (gl g) = true) (hg0 : gl 0 = .kp (cl wC kc)) (hg1 : gl 1 = .kp (cl wC kc)) (M : Nat) : CxOK (cxP gl M pu4) := CxOK.ext2 (N := 0) (ok3 hgn hg0 hg1 0) nr4 fun x => fc36 (ok3 hgn hg0 hg1 0) (show ∀ x k, pu3 40 [.val (w32 x), .val (.int .i64 k)] = some (.val (w32 (rotl x ((k % 18446744073709551616).toNat % 32)))) from by intros; rw [pu3, ext_miss (by decide), pu2, ext_miss (by decide)]; apply hit1 <;> assumption) ((x.1)) x.2
theorem hno4 : ∀ (g : Nat) (xs : List C), refy xs = true → pu4 g xs = none := hno_ext hno3 nr4
theorem hit4 (b : List UInt8) (hc0 : b.length = 64) : pu4 36 [sl bC .no b] = some (.agg (cl wC (sched b 64))) :=
  (ext_hit _).trans (tabOf_enc ij4 ⟨(b), hc0⟩)

abbrev D5 := {x : S8 × (List UInt8) // ((x.2).length = 64)}
def enc5 (x : D5) : List C := [.agg (cl wC (x.1.1).l), sl bC .no (x.1.2)]
def out5 (x : D5) : C := .agg (cl wC (comp (x.1.1) (x.1.2)).l)
noncomputable def pu5 : Nat → List C → Option C := Sx.ext pu4 30 (tabOf enc5 out5)
theorem nr5 (x : D5) : noRefs 0 (enc5 x) = true := by
  simp only [enc5, noRef_val, noRef_agg, noRef_tup, noRef_kp, noRef_sl, noRefs_cl, noRefs_cons, noRefs_nil, noRefs_app, Bool.and_self, Bool.and_true]
theorem ij5 (x y : D5) (h : enc5 x = enc5 y) : out5 x = out5 y := by
  simp only [enc5, List.cons.injEq, C.agg.injEq, cl_inj, sl_inj, S8_inj, and_true] at h; simp only [out5, h]
theorem ok5 {gl : Nat → C} (hgn : ∀ g, noRef 0 (gl g) = true) (hg0 : gl 0 = .kp (cl wC kc)) (hg1 : gl 1 = .kp (cl wC kc)) (M : Nat) : CxOK (cxP gl M pu5) := CxOK.ext2 (N := 0) (ok4 hgn hg0 hg1 0) nr5 fun x => fc30 (ok4 hgn hg0 hg1 0) hg1 (show ∀ x i j k, 0 < i ∧ i < 32 → 0 < j ∧ j < 32 → 0 < k ∧ k < 32 → pu4 37 [.val (w32 x), .val (nI i), .val (nI j), .val (nI k)] = some (.val (w32 (rr x i ^^^ rr x j ^^^ rr x k))) from by intros; rw [pu4, ext_miss (by decide), pu3, ext_miss (by decide)]; apply hit2 <;> assumption) (show ∀ b : List UInt8, b.length = 64 → pu4 36 [sl bC .no b] = some (.agg (cl wC (sched b 64))) from by intros; apply hit4 <;> assumption) ((x.1.1)) ((x.1.2)) x.2
theorem hno5 : ∀ (g : Nat) (xs : List C), refy xs = true → pu5 g xs = none := hno_ext hno4 nr5
theorem hit5 (s : S8) (b : List UInt8) (hc0 : b.length = 64) : pu5 30 [.agg (cl wC s.l), sl bC .no b] = some (.agg (cl wC (comp s b).l)) :=
  (ext_hit _).trans (tabOf_enc ij5 ⟨(s, b), hc0⟩)

abbrev D6 := {x : Unit // True}
def enc6 (x : D6) : List C := ([] : List C)
def out6 (x : D6) : C := .agg F0.cells
noncomputable def pu6 : Nat → List C → Option C := Sx.ext pu5 14 (tabOf enc6 out6)
theorem nr6 (x : D6) : noRefs 0 (enc6 x) = true := by
  simp only [enc6, noRef_val, noRef_agg, noRef_tup, noRef_kp, noRef_sl, noRefs_cl, noRefs_cons, noRefs_nil, noRefs_app, Bool.and_self, Bool.and_true]
theorem ij6 (x y : D6) (h : enc6 x = enc6 y) : out6 x = out6 y := by
  rfl
theorem ok6 {gl : Nat → C} (hgn : ∀ g, noRef 0 (gl g) = true) (hg0 : gl 0 = .kp (cl wC kc)) (hg1 : gl 1 = .kp (cl wC kc)) (M : Nat) : CxOK (cxP gl M pu6) := CxOK.ext2 (N := 0) (ok5 hgn hg0 hg1 0) nr6 fun x => fc14 (ok5 hgn hg0 hg1 0)  
theorem hno6 : ∀ (g : Nat) (xs : List C), refy xs = true → pu6 g xs = none := hno_ext hno5 nr6
theorem hit6   : pu6 14 ([] : List C) = some (.agg F0.cells) :=
  (ext_hit _).trans (tabOf_enc ij6 ⟨(), trivial⟩)

abbrev D7 := {x : S8 × (List UInt8) × Nat × (List UInt8) // ((x.2.1).length = 64) ∧ ((x.2.2.1) + (x.2.2.2).length < 1152921504606846976)}
def enc7 (x : D7) : List C := [.agg (cl wC (x.1.1).l ++ (cl bC (x.1.2.1) ++ [.val (nU (x.1.2.2.1))])), .val (str (x.1.2.2.2))]
def out7 (x : D7) : C := .agg (feed ⟨(x.1.1), (x.1.2.1), (x.1.2.2.1)⟩ (x.1.2.2.2)).cells
noncomputable def pu7 : Nat → List C → Option C := Sx.ext pu6 15 (tabOf enc7 out7)
theorem nr7 (x : D7) : noRefs 0 (enc7 x) = true := by
  simp only [enc7, noRef_val, noRef_agg, noRef_tup, noRef_kp, noRef_sl, noRefs_cl, noRefs_cons, noRefs_nil, noRefs_app, Bool.and_self, Bool.and_true]
theorem ij7 (x y : D7) (h : enc7 x = enc7 y) : out7 x = out7 y := by
  exact feed_out x.1.1 y.1.1 x.1.2.1 y.1.2.1 x.1.2.2.1 y.1.2.2.1 x.1.2.2.2 y.1.2.2.2 x.2.1 y.2.1 h
theorem ok7 {gl : Nat → C} (hgn : ∀ g, noRef 0 (gl g) = true) (hg0 : gl 0 = .kp (cl wC kc)) (hg1 : gl 1 = .kp (cl wC kc)) (M : Nat) : CxOK (cxP gl M pu7) := CxOK.ext2 (N := 0) (ok6 hgn hg0 hg1 0) nr7 fun x => fc15 (ok6 hgn hg0 hg1 0) (show ∀ (s : S8) (b : List UInt8), b.length = 64 → pu6 30 [.agg (cl wC s.l), sl bC .no b] = some (.agg (cl wC (comp s b).l)) from by intros; rw [pu6, ext_miss (by decide)]; apply hit5 <;> assumption) hno6 (⟨(x.1.1), (x.1.2.1), (x.1.2.2.1)⟩) ((x.1.2.2.2)) x.2.1 x.2.2
theorem hno7 : ∀ (g : Nat) (xs : List C), refy xs = true → pu7 g xs = none := hno_ext hno6 nr7
theorem hit7 (s : S8) (blk : List UInt8) (n : Nat) (t : List UInt8) (hc0 : blk.length = 64) (hc1 : n + t.length < 1152921504606846976) : pu7 15 [.agg (cl wC s.l ++ (cl bC blk ++ [.val (nU n)])), .val (str t)] = some (.agg (feed ⟨s, blk, n⟩ t).cells) :=
  (ext_hit _).trans (tabOf_enc ij7 ⟨(s, blk, n, t), ⟨hc0, hc1⟩⟩)

abbrev D8 := {x : S8 × (List UInt8) × Nat // ((x.2.1).length = 64) ∧ ((x.2.2) < 576460752303423488)}
def enc8 (x : D8) : List C := [.agg (cl wC (x.1.1).l ++ (cl bC (x.1.2.1) ++ [.val (nU (x.1.2.2))]))]
def out8 (x : D8) : C := .agg (cl bC (sumF ⟨(x.1.1), (x.1.2.1), (x.1.2.2)⟩))
noncomputable def pu8 : Nat → List C → Option C := Sx.ext pu7 17 (tabOf enc8 out8)
theorem nr8 (x : D8) : noRefs 0 (enc8 x) = true := by
  simp only [enc8, noRef_val, noRef_agg, noRef_tup, noRef_kp, noRef_sl, noRefs_cl, noRefs_cons, noRefs_nil, noRefs_app, Bool.and_self, Bool.and_true]
theorem ij8 (x y : D8) (h : enc8 x = enc8 y) : out8 x = out8 y := by
  exact sum_out x.1.1 y.1.1 x.1.2.1 y.1.2.1 x.1.2.2 y.1.2.2 x.2.1 y.2.1 h
theorem ok8 {gl : Nat → C} (hgn : ∀ g, noRef 0 (gl g) = true) (hg0 : gl 0 = .kp (cl wC kc)) (hg1 : gl 1 = .kp (cl wC kc)) (M : Nat) : CxOK (cxP gl M pu8) := CxOK.ext2 (N := 0) (ok7 hgn hg0 hg1 0) nr8 fun x => fc17 (ok7 hgn hg0 hg1 0) (show ∀ (s : S8) (blk : List UInt8) (n : Nat) (t : List UInt8), blk.length = 64 → n + t.length < 1152921504606846976 → pu7 15 [.agg (cl wC s.l ++ (cl bC blk ++ [.val (nU n)])), .val (str t)] = some (.agg (feed ⟨s, blk, n⟩ t).cells) from by intros; apply hit7 <;> assumption) (⟨(x.1.1), (x.1.2.1), (x.1.2.2)⟩) x.2.1 x.2.2
theorem hno8 : ∀ (g : Nat) (xs : List C), refy xs = true → pu8 g xs = none := hno_ext hno7 nr8
theorem hit8 (s : S8) (blk : List UInt8) (n : Nat) (hc0 : blk.length = 64) (hc1 : n < 576460752303423488) : pu8 17 [.agg (cl wC s.l ++ (cl bC blk ++ [.val (nU n)]))] = some (.agg (cl bC (sumF ⟨s, blk, n⟩))) :=
  (ext_hit _).trans (tabOf_enc ij8 ⟨(s, blk, n), ⟨hc0, hc1⟩⟩)

abbrev D9 := {x : (List UInt8) // ((x).length < 140737488355328)}
def enc9 (x : D9) : List C := [sl bC .no (x.1)]
def out9 (x : D9) : C := .agg (cl bC (sha (x.1)))
noncomputable def pu9 : Nat → List C → Option C := Sx.ext pu8 11 (tabOf enc9 out9)
theorem nr9 (x : D9) : noRefs 0 (enc9 x) = true := by
  simp only [enc9, noRef_val, noRef_agg, noRef_tup, noRef_kp, noRef_sl, noRefs_cl, noRefs_cons, noRefs_nil, noRefs_app, Bool.and_self, Bool.and_true]
theorem ij9 (x y : D9) (h : enc9 x = enc9 y) : out9 x = out9 y := by
  simp only [enc9, List.cons.injEq, C.val.injEq, C.agg.injEq, C.kp.injEq, str_inj, nI_inj, nU_inj, w8_inj, w32_inj, cl_inj, sl_inj, Value.int.injEq, Value.bool.injEq, true_and, and_true] at h; simp only [out9, h]
theorem ok9 {gl : Nat → C} (hgn : ∀ g, noRef 0 (gl g) = true) (hg0 : gl 0 = .kp (cl wC kc)) (hg1 : gl 1 = .kp (cl wC kc)) (M : Nat) : CxOK (cxP gl M pu9) := CxOK.ext2 (N := 0) (ok8 hgn hg0 hg1 0) nr9 fun x => fc11 (ok8 hgn hg0 hg1 0) (show pu8 14 [] = some (.agg F0.cells) from by intros; rw [pu8, ext_miss (by decide), pu7, ext_miss (by decide)]; apply hit6 <;> assumption) (show ∀ (s : S8) (blk : List UInt8) (n : Nat) (t : List UInt8), blk.length = 64 → n + t.length < 1152921504606846976 → pu8 15 [.agg (cl wC s.l ++ (cl bC blk ++ [.val (nU n)])), .val (str t)] = some (.agg (feed ⟨s, blk, n⟩ t).cells) from by intros; rw [pu8, ext_miss (by decide)]; apply hit7 <;> assumption) (show ∀ (s : S8) (blk : List UInt8) (n : Nat), blk.length = 64 → n < 576460752303423488 → pu8 17 [.agg (cl wC s.l ++ (cl bC blk ++ [.val (nU n)]))] = some (.agg (cl bC (sumF ⟨s, blk, n⟩))) from by intros; apply hit8 <;> assumption) ((x.1)) x.2
theorem hno9 : ∀ (g : Nat) (xs : List C), refy xs = true → pu9 g xs = none := hno_ext hno8 nr9
theorem hit9 (b : List UInt8) (hc0 : b.length < 140737488355328) : pu9 11 [sl bC .no b] = some (.agg (cl bC (sha b))) :=
  (ext_hit _).trans (tabOf_enc ij9 ⟨(b), hc0⟩)

abbrev D10 := {x : UInt8 × (List UInt8) // ((x.2).length < 140737488355328)}
def enc10 (x : D10) : List C := [.val (w8 (x.1.1)), .kp [.val (str (x.1.2))]]
def out10 (x : D10) : C := .val (str (padk (x.1.2) (x.1.1)))
noncomputable def pu10 : Nat → List C → Option C := Sx.ext pu9 31 (tabOf enc10 out10)
theorem nr10 (x : D10) : noRefs 0 (enc10 x) = true := by
  simp only [enc10, noRef_val, noRef_agg, noRef_tup, noRef_kp, noRef_sl, noRefs_cl, noRefs_cons, noRefs_nil, noRefs_app, Bool.and_self, Bool.and_true]
theorem ij10 (x y : D10) (h : enc10 x = enc10 y) : out10 x = out10 y := by
  simp only [enc10, List.cons.injEq, C.val.injEq, C.agg.injEq, C.kp.injEq, str_inj, nI_inj, nU_inj, w8_inj, w32_inj, cl_inj, sl_inj, Value.int.injEq, Value.bool.injEq, true_and, and_true] at h; simp only [out10, h]
theorem ok10 {gl : Nat → C} (hgn : ∀ g, noRef 0 (gl g) = true) (hg0 : gl 0 = .kp (cl wC kc)) (hg1 : gl 1 = .kp (cl wC kc)) (M : Nat) : CxOK (cxP gl M pu10) := CxOK.ext2 (N := 0) (ok9 hgn hg0 hg1 0) nr10 fun x => fc31 (ok9 hgn hg0 hg1 0)  ((x.1.1)) ((x.1.2)) x.2
theorem hno10 : ∀ (g : Nat) (xs : List C), refy xs = true → pu10 g xs = none := hno_ext hno9 nr10
theorem hit10 (x : UInt8) (key : List UInt8) (hc0 : key.length < 140737488355328) : pu10 31 [.val (w8 x), .kp [.val (str key)]] = some (.val (str (padk key x))) :=
  (ext_hit _).trans (tabOf_enc ij10 ⟨(x, key), hc0⟩)

abbrev D11 := {x : (List UInt8) × (List UInt8) // ((x.1).length < 1099511627776) ∧ ((x.2).length < 1099511627776)}
def enc11 (x : D11) : List C := [.val (str (x.1.1)), .val (str (x.1.2))]
def out11 (x : D11) : C := .val (str (hmac (x.1.1) (x.1.2)))
noncomputable def pu11 : Nat → List C → Option C := Sx.ext pu10 18 (tabOf enc11 out11)
theorem nr11 (x : D11) : noRefs 0 (enc11 x) = true := by
  simp only [enc11, noRef_val, noRef_agg, noRef_tup, noRef_kp, noRef_sl, noRefs_cl, noRefs_cons, noRefs_nil, noRefs_app, Bool.and_self, Bool.and_true]
theorem ij11 (x y : D11) (h : enc11 x = enc11 y) : out11 x = out11 y := by
  simp only [enc11, List.cons.injEq, C.val.injEq, C.agg.injEq, C.kp.injEq, str_inj, nI_inj, nU_inj, w8_inj, w32_inj, cl_inj, sl_inj, Value.int.injEq, Value.bool.injEq, true_and, and_true] at h; simp only [out11, h]
theorem ok11 {gl : Nat → C} (hgn : ∀ g, noRef 0 (gl g) = true) (hg0 : gl 0 = .kp (cl wC kc)) (hg1 : gl 1 = .kp (cl wC kc)) (M : Nat) : CxOK (cxP gl M pu11) := CxOK.ext2 (N := 0) (ok10 hgn hg0 hg1 0) nr11 fun x => fc18 (ok10 hgn hg0 hg1 0) (show ∀ b : List UInt8, b.length < 140737488355328 → pu10 11 [sl bC .no b] = some (.agg (cl bC (sha b))) from by intros; rw [pu10, ext_miss (by decide)]; apply hit9 <;> assumption) (show pu10 14 [] = some (.agg F0.cells) from by intros; rw [pu10, ext_miss (by decide), pu9, ext_miss (by decide), pu8, ext_miss (by decide), pu7, ext_miss (by decide)]; apply hit6 <;> assumption) (show ∀ (s : S8) (blk : List UInt8) (n : Nat) (t : List UInt8), blk.length = 64 → n + t.length < 1152921504606846976 → pu10 15 [.agg (cl wC s.l ++ (cl bC blk ++ [.val (nU n)])), .val (str t)] = some (.agg (feed ⟨s, blk, n⟩ t).cells) from by intros; rw [pu10, ext_miss (by decide), pu9, ext_miss (by decide), pu8, ext_miss (by decide)]; apply hit7 <;> assumption) (show ∀ (s : S8) (blk : List UInt8) (n : Nat), blk.length = 64 → n < 576460752303423488 → pu10 17 [.agg (cl wC s.l ++ (cl bC blk ++ [.val (nU n)]))] = some (.agg (cl bC (sumF ⟨s, blk, n⟩))) from by intros; rw [pu10, ext_miss (by decide), pu9, ext_miss (by decide)]; apply hit8 <;> assumption) (show ∀ (x : UInt8) (key : List UInt8), key.length < 140737488355328 → pu10 31 [.val (w8 x), .kp [.val (str key)]] = some (.val (str (padk key x))) from by intros; apply hit10 <;> assumption) hno10 ((x.1.1)) ((x.1.2)) x.2.1 x.2.2
theorem hno11 : ∀ (g : Nat) (xs : List C), refy xs = true → pu11 g xs = none := hno_ext hno10 nr11
theorem hit11 (key : List UInt8) (t : List UInt8) (hc0 : key.length < 1099511627776) (hc1 : t.length < 1099511627776) : pu11 18 [.val (str key), .val (str t)] = some (.val (str (hmac key t))) :=
  (ext_hit _).trans (tabOf_enc ij11 ⟨(key, t), ⟨hc0, hc1⟩⟩)

abbrev D12 := {x : Nat // ((x) < 9223372036854775808)}
def enc12 (x : D12) : List C := [.val (nI (x.1))]
def out12 (x : D12) : C := sl bC (.own 1) (wI (x.1) 0)
noncomputable def pu12 : Nat → List C → Option C := Sx.ext pu11 38 (tabOf enc12 out12)
theorem nr12 (x : D12) : noRefs 0 (enc12 x) = true := by
  simp only [enc12, noRef_val, noRef_agg, noRef_tup, noRef_kp, noRef_sl, noRefs_cl, noRefs_cons, noRefs_nil, noRefs_app, Bool.and_self, Bool.and_true]
theorem ij12 (x y : D12) (h : enc12 x = enc12 y) : out12 x = out12 y := by
  simp only [enc12, List.cons.injEq, C.val.injEq, C.agg.injEq, C.kp.injEq, str_inj, nI_inj, nU_inj, w8_inj, w32_inj, cl_inj, sl_inj, Value.int.injEq, Value.bool.injEq, true_and, and_true] at h; simp only [out12, h]
theorem ok12 {gl : Nat → C} (hgn : ∀ g, noRef 0 (gl g) = true) (hg0 : gl 0 = .kp (cl wC kc)) (hg1 : gl 1 = .kp (cl wC kc)) (M : Nat) : CxOK (cxP gl M pu12) := CxOK.ext2 (N := 0) (ok11 hgn hg0 hg1 0) nr12 fun x => fc38p (ok11 hgn hg0 hg1 0)  ((x.1)) x.2
theorem hno12 : ∀ (g : Nat) (xs : List C), refy xs = true → pu12 g xs = none := hno_ext hno11 nr12
theorem hit12 (m : Nat) (hc0 : m < 9223372036854775808) : pu12 38 [.val (nI m)] = some (sl bC (.own 1) (wI m 0)) :=
  (ext_hit _).trans (tabOf_enc ij12 ⟨(m), hc0⟩)

abbrev D13 := {x : (List UInt8) // ((x).length < 70368744177664)}
def enc13 (x : D13) : List C := [.val (str (x.1))]
def out13 (x : D13) : C := sl bC (.own 1) (wb (x.1))
noncomputable def pu13 : Nat → List C → Option C := Sx.ext pu12 33 (tabOf enc13 out13)
theorem nr13 (x : D13) : noRefs 0 (enc13 x) = true := by
  simp only [enc13, noRef_val, noRef_agg, noRef_tup, noRef_kp, noRef_sl, noRefs_cl, noRefs_cons, noRefs_nil, noRefs_app, Bool.and_self, Bool.and_true]
theorem ij13 (x y : D13) (h : enc13 x = enc13 y) : out13 x = out13 y := by
  simp only [enc13, List.cons.injEq, C.val.injEq, C.agg.injEq, C.kp.injEq, str_inj, nI_inj, nU_inj, w8_inj, w32_inj, cl_inj, sl_inj, Value.int.injEq, Value.bool.injEq, true_and, and_true] at h; simp only [out13, h]
theorem ok13 {gl : Nat → C} (hgn : ∀ g, noRef 0 (gl g) = true) (hg0 : gl 0 = .kp (cl wC kc)) (hg1 : gl 1 = .kp (cl wC kc)) (M : Nat) : CxOK (cxP gl M pu13) := CxOK.ext2 (N := 0) (ok12 hgn hg0 hg1 0) nr13 fun x => fc33 (ok12 hgn hg0 hg1 0) (show ∀ m : Nat, m < 9223372036854775808 → pu12 38 [.val (nI m)] = some (sl bC (.own 1) (wI m 0)) from by intros; apply hit12 <;> assumption) ((x.1)) x.2
theorem hno13 : ∀ (g : Nat) (xs : List C), refy xs = true → pu13 g xs = none := hno_ext hno12 nr13
theorem hit13 (s : List UInt8) (hc0 : s.length < 70368744177664) : pu13 33 [.val (str s)] = some (sl bC (.own 1) (wb s)) :=
  (ext_hit _).trans (tabOf_enc ij13 ⟨(s), hc0⟩)

abbrev D14 := {x : Int × (List (List UInt8)) // ((inp (x.1) (x.2)).length < 1099511627776)}
def enc14 (x : D14) : List C := [.val (.int .i64 (x.1.1)), sl sC .no (x.1.2)]
def out14 (x : D14) : C := .agg (cl bC ((sha (inp (x.1.1) (x.1.2))).take 16))
noncomputable def pu14 : Nat → List C → Option C := Sx.ext pu13 21 (tabOf enc14 out14)
theorem nr14 (x : D14) : noRefs 0 (enc14 x) = true := by
  simp only [enc14, noRef_val, noRef_agg, noRef_tup, noRef_kp, noRef_sl, noRefs_cl, noRefs_cons, noRefs_nil, noRefs_app, Bool.and_self, Bool.and_true]
theorem ij14 (x y : D14) (h : enc14 x = enc14 y) : out14 x = out14 y := by
  simp only [enc14, List.cons.injEq, C.val.injEq, C.agg.injEq, C.kp.injEq, str_inj, nI_inj, nU_inj, w8_inj, w32_inj, cl_inj, sl_inj, Value.int.injEq, Value.bool.injEq, true_and, and_true] at h; simp only [out14, h]
theorem ok14 {gl : Nat → C} (hgn : ∀ g, noRef 0 (gl g) = true) (hg0 : gl 0 = .kp (cl wC kc)) (hg1 : gl 1 = .kp (cl wC kc)) (M : Nat) : CxOK (cxP gl M pu14) := CxOK.ext2 (N := 0) (ok13 hgn hg0 hg1 0) nr14 fun x => fc21 (ok13 hgn hg0 hg1 0) (show pu13 14 [] = some (.agg F0.cells) from by intros; rw [pu13, ext_miss (by decide), pu12, ext_miss (by decide), pu11, ext_miss (by decide), pu10, ext_miss (by decide), pu9, ext_miss (by decide), pu8, ext_miss (by decide), pu7, ext_miss (by decide)]; apply hit6 <;> assumption) (show ∀ (s : S8) (blk : List UInt8) (n : Nat) (t : List UInt8), blk.length = 64 → n + t.length < 1152921504606846976 → pu13 15 [.agg (cl wC s.l ++ (cl bC blk ++ [.val (nU n)])), .val (str t)] = some (.agg (feed ⟨s, blk, n⟩ t).cells) from by intros; rw [pu13, ext_miss (by decide), pu12, ext_miss (by decide), pu11, ext_miss (by decide), pu10, ext_miss (by decide), pu9, ext_miss (by decide), pu8, ext_miss (by decide)]; apply hit7 <;> assumption) (show ∀ (s : S8) (blk : List UInt8) (n : Nat), blk.length = 64 → n < 576460752303423488 → pu13 17 [.agg (cl wC s.l ++ (cl bC blk ++ [.val (nU n)]))] = some (.agg (cl bC (sumF ⟨s, blk, n⟩))) from by intros; rw [pu13, ext_miss (by decide), pu12, ext_miss (by decide), pu11, ext_miss (by decide), pu10, ext_miss (by decide), pu9, ext_miss (by decide)]; apply hit8 <;> assumption) (show ∀ s : List UInt8, s.length < 70368744177664 → pu13 33 [.val (str s)] = some (sl bC (.own 1) (wb s)) from by intros; apply hit13 <;> assumption) ((x.1.1)) ((x.1.2)) x.2
theorem hno14 : ∀ (g : Nat) (xs : List C), refy xs = true → pu14 g xs = none := hno_ext hno13 nr14
theorem hit14 (tag : Int) (parts : List (List UInt8)) (hc0 : (inp tag parts).length < 1099511627776) : pu14 21 [.val (.int .i64 tag), sl sC .no parts] = some (.agg (cl bC ((sha (inp tag parts)).take 16))) :=
  (ext_hit _).trans (tabOf_enc ij14 ⟨(tag, parts), hc0⟩)

abbrev D15 := {x : (List UInt8) × (List UInt8) // ((x.1).length < 1099511627776) ∧ ((x.2).length < 1099511627776)}
def enc15 (x : D15) : List C := [.val (str (x.1.1)), .val (str (x.1.2))]
def out15 (x : D15) : C := .val (.bool (decide ((x.1.1) = (x.1.2))))
noncomputable def pu15 : Nat → List C → Option C := Sx.ext pu14 24 (tabOf enc15 out15)
theorem nr15 (x : D15) : noRefs 0 (enc15 x) = true := by
  simp only [enc15, noRef_val, noRef_agg, noRef_tup, noRef_kp, noRef_sl, noRefs_cl, noRefs_cons, noRefs_nil, noRefs_app, Bool.and_self, Bool.and_true]
theorem ij15 (x y : D15) (h : enc15 x = enc15 y) : out15 x = out15 y := by
  simp only [enc15, List.cons.injEq, C.val.injEq, C.agg.injEq, C.kp.injEq, str_inj, nI_inj, nU_inj, w8_inj, w32_inj, cl_inj, sl_inj, Value.int.injEq, Value.bool.injEq, true_and, and_true] at h; simp only [out15, h]
theorem ok15 {gl : Nat → C} (hgn : ∀ g, noRef 0 (gl g) = true) (hg0 : gl 0 = .kp (cl wC kc)) (hg1 : gl 1 = .kp (cl wC kc)) (M : Nat) : CxOK (cxP gl M pu15) := CxOK.ext2 (N := 0) (ok14 hgn hg0 hg1 0) nr15 fun x => fc24 (ok14 hgn hg0 hg1 0)  ((x.1.1)) ((x.1.2)) x.2.1 x.2.2
theorem hno15 : ∀ (g : Nat) (xs : List C), refy xs = true → pu15 g xs = none := hno_ext hno14 nr15
theorem hit15 (x : List UInt8) (y : List UInt8) (hc0 : x.length < 1099511627776) (hc1 : y.length < 1099511627776) : pu15 24 [.val (str x), .val (str y)] = some (.val (.bool (decide (x = y)))) :=
  (ext_hit _).trans (tabOf_enc ij15 ⟨(x, y), ⟨hc0, hc1⟩⟩)

abbrev D16 := {x : Nat // ((x) < 9223372036854775808)}
def enc16 (x : D16) : List C := [.val (nI (x.1))]
def out16 (x : D16) : C := sl bC (.own 1) (wI (x.1) 0)
noncomputable def pu16 : Nat → List C → Option C := Sx.ext pu15 39 (tabOf enc16 out16)
theorem nr16 (x : D16) : noRefs 0 (enc16 x) = true := by
  simp only [enc16, noRef_val, noRef_agg, noRef_tup, noRef_kp, noRef_sl, noRefs_cl, noRefs_cons, noRefs_nil, noRefs_app, Bool.and_self, Bool.and_true]
theorem ij16 (x y : D16) (h : enc16 x = enc16 y) : out16 x = out16 y := by
  simp only [enc16, List.cons.injEq, C.val.injEq, C.agg.injEq, C.kp.injEq, str_inj, nI_inj, nU_inj, w8_inj, w32_inj, cl_inj, sl_inj, Value.int.injEq, Value.bool.injEq, true_and, and_true] at h; simp only [out16, h]
theorem ok16 {gl : Nat → C} (hgn : ∀ g, noRef 0 (gl g) = true) (hg0 : gl 0 = .kp (cl wC kc)) (hg1 : gl 1 = .kp (cl wC kc)) (M : Nat) : CxOK (cxP gl M pu16) := CxOK.ext2 (N := 0) (ok15 hgn hg0 hg1 0) nr16 fun x => fc39p (ok15 hgn hg0 hg1 0)  ((x.1)) x.2
theorem hno16 : ∀ (g : Nat) (xs : List C), refy xs = true → pu16 g xs = none := hno_ext hno15 nr16
theorem hit16 (m : Nat) (hc0 : m < 9223372036854775808) : pu16 39 [.val (nI m)] = some (sl bC (.own 1) (wI m 0)) :=
  (ext_hit _).trans (tabOf_enc ij16 ⟨(m), hc0⟩)

abbrev D17 := {x : (List UInt8) // ((x).length < 70368744177664)}
def enc17 (x : D17) : List C := [.val (str (x.1))]
def out17 (x : D17) : C := sl bC (.own 1) (wb (x.1))
noncomputable def pu17 : Nat → List C → Option C := Sx.ext pu16 35 (tabOf enc17 out17)
theorem nr17 (x : D17) : noRefs 0 (enc17 x) = true := by
  simp only [enc17, noRef_val, noRef_agg, noRef_tup, noRef_kp, noRef_sl, noRefs_cl, noRefs_cons, noRefs_nil, noRefs_app, Bool.and_self, Bool.and_true]
theorem ij17 (x y : D17) (h : enc17 x = enc17 y) : out17 x = out17 y := by
  simp only [enc17, List.cons.injEq, C.val.injEq, C.agg.injEq, C.kp.injEq, str_inj, nI_inj, nU_inj, w8_inj, w32_inj, cl_inj, sl_inj, Value.int.injEq, Value.bool.injEq, true_and, and_true] at h; simp only [out17, h]
theorem ok17 {gl : Nat → C} (hgn : ∀ g, noRef 0 (gl g) = true) (hg0 : gl 0 = .kp (cl wC kc)) (hg1 : gl 1 = .kp (cl wC kc)) (M : Nat) : CxOK (cxP gl M pu17) := CxOK.ext2 (N := 0) (ok16 hgn hg0 hg1 0) nr17 fun x => fc35 (ok16 hgn hg0 hg1 0) (show ∀ m : Nat, m < 9223372036854775808 → pu16 39 [.val (nI m)] = some (sl bC (.own 1) (wI m 0)) from by intros; apply hit16 <;> assumption) ((x.1)) x.2
theorem hno17 : ∀ (g : Nat) (xs : List C), refy xs = true → pu17 g xs = none := hno_ext hno16 nr17
theorem hit17 (s : List UInt8) (hc0 : s.length < 70368744177664) : pu17 35 [.val (str s)] = some (sl bC (.own 1) (wb s)) :=
  (ext_hit _).trans (tabOf_enc ij17 ⟨(s), hc0⟩)

abbrev D18 := {x : (List (List UInt8)) // True}
def enc18 (x : D18) : List C := [sl sC .no (x.1)]
def out18 (x : D18) : C := .val (.bool (few (x.1)))
noncomputable def pu18 : Nat → List C → Option C := Sx.ext pu17 13 (tabOf enc18 out18)
theorem nr18 (x : D18) : noRefs 0 (enc18 x) = true := by
  simp only [enc18, noRef_val, noRef_agg, noRef_tup, noRef_kp, noRef_sl, noRefs_cl, noRefs_cons, noRefs_nil, noRefs_app, Bool.and_self, Bool.and_true]
theorem ij18 (x y : D18) (h : enc18 x = enc18 y) : out18 x = out18 y := by
  simp only [enc18, List.cons.injEq, C.val.injEq, C.agg.injEq, C.kp.injEq, str_inj, nI_inj, nU_inj, w8_inj, w32_inj, cl_inj, sl_inj, Value.int.injEq, Value.bool.injEq, true_and, and_true] at h; simp only [out18, h]
theorem ok18 {gl : Nat → C} (hgn : ∀ g, noRef 0 (gl g) = true) (hg0 : gl 0 = .kp (cl wC kc)) (hg1 : gl 1 = .kp (cl wC kc)) (M : Nat) : CxOK (cxP gl M pu18) := CxOK.ext2 (N := 0) (ok17 hgn hg0 hg1 0) nr18 fun x => fc13 (ok17 hgn hg0 hg1 0)  ((x.1))
theorem hno18 : ∀ (g : Nat) (xs : List C), refy xs = true → pu18 g xs = none := hno_ext hno17 nr18
theorem hit18 (l : List (List UInt8))  : pu18 13 [sl sC .no l] = some (.val (.bool (few l))) :=
  (ext_hit _).trans (tabOf_enc ij18 ⟨(l), trivial⟩)

abbrev D19 := {x : (List (List UInt8)) // ((x).length < 4611686018427387904 ∧ (x).flatten.length < 4611686018427387904)}
def enc19 (x : D19) : List C := [sl sC .no (x.1)]
def out19 (x : D19) : C := .val (str (x.1).flatten)
noncomputable def pu19 : Nat → List C → Option C := Sx.ext pu18 16 (tabOf enc19 out19)
theorem nr19 (x : D19) : noRefs 0 (enc19 x) = true := by
  simp only [enc19, noRef_val, noRef_agg, noRef_tup, noRef_kp, noRef_sl, noRefs_cl, noRefs_cons, noRefs_nil, noRefs_app, Bool.and_self, Bool.and_true]
theorem ij19 (x y : D19) (h : enc19 x = enc19 y) : out19 x = out19 y := by
  simp only [enc19, List.cons.injEq, C.val.injEq, C.agg.injEq, C.kp.injEq, str_inj, nI_inj, nU_inj, w8_inj, w32_inj, cl_inj, sl_inj, Value.int.injEq, Value.bool.injEq, true_and, and_true] at h; simp only [out19, h]
theorem ok19 {gl : Nat → C} (hgn : ∀ g, noRef 0 (gl g) = true) (hg0 : gl 0 = .kp (cl wC kc)) (hg1 : gl 1 = .kp (cl wC kc)) (M : Nat) : CxOK (cxP gl M pu19) := CxOK.ext2 (N := 0) (ok18 hgn hg0 hg1 0) nr19 fun x => fc16 (ok18 hgn hg0 hg1 0)  ((x.1)) x.2
theorem hno19 : ∀ (g : Nat) (xs : List C), refy xs = true → pu19 g xs = none := hno_ext hno18 nr19
theorem hit19 (l : List (List UInt8)) (hc0 : l.length < 4611686018427387904 ∧ l.flatten.length < 4611686018427387904) : pu19 16 [sl sC .no l] = some (.val (str l.flatten)) :=
  (ext_hit _).trans (tabOf_enc ij19 ⟨(l), hc0⟩)

abbrev D20 := {x : (List UInt8) // ((x).length = 32)}
def enc20 (x : D20) : List C := [.agg (cl bC (x.1))]
def out20 (x : D20) : C := .val (str (x.1))
noncomputable def pu20 : Nat → List C → Option C := Sx.ext pu19 20 (tabOf enc20 out20)
theorem nr20 (x : D20) : noRefs 0 (enc20 x) = true := by
  simp only [enc20, noRef_val, noRef_agg, noRef_tup, noRef_kp, noRef_sl, noRefs_cl, noRefs_cons, noRefs_nil, noRefs_app, Bool.and_self, Bool.and_true]
theorem ij20 (x y : D20) (h : enc20 x = enc20 y) : out20 x = out20 y := by
  simp only [enc20, List.cons.injEq, C.val.injEq, C.agg.injEq, C.kp.injEq, str_inj, nI_inj, nU_inj, w8_inj, w32_inj, cl_inj, sl_inj, Value.int.injEq, Value.bool.injEq, true_and, and_true] at h; simp only [out20, h]
theorem ok20 {gl : Nat → C} (hgn : ∀ g, noRef 0 (gl g) = true) (hg0 : gl 0 = .kp (cl wC kc)) (hg1 : gl 1 = .kp (cl wC kc)) (M : Nat) : CxOK (cxP gl M pu20) := CxOK.ext2 (N := 0) (ok19 hgn hg0 hg1 0) nr20 fun x => fc20 (ok19 hgn hg0 hg1 0)  ((x.1)) x.2
theorem hno20 : ∀ (g : Nat) (xs : List C), refy xs = true → pu20 g xs = none := hno_ext hno19 nr20
theorem hit20 (h : List UInt8) (hc0 : h.length = 32) : pu20 20 [.agg (cl bC h)] = some (.val (str h)) :=
  (ext_hit _).trans (tabOf_enc ij20 ⟨(h), hc0⟩)

abbrev D21 := {x : (List UInt8) // ((x).length = 16)}
def enc21 (x : D21) : List C := [.agg (cl bC (x.1))]
def out21 (x : D21) : C := .val (str (x.1))
noncomputable def pu21 : Nat → List C → Option C := Sx.ext pu20 26 (tabOf enc21 out21)
theorem nr21 (x : D21) : noRefs 0 (enc21 x) = true := by
  simp only [enc21, noRef_val, noRef_agg, noRef_tup, noRef_kp, noRef_sl, noRefs_cl, noRefs_cons, noRefs_nil, noRefs_app, Bool.and_self, Bool.and_true]
theorem ij21 (x y : D21) (h : enc21 x = enc21 y) : out21 x = out21 y := by
  simp only [enc21, List.cons.injEq, C.val.injEq, C.agg.injEq, C.kp.injEq, str_inj, nI_inj, nU_inj, w8_inj, w32_inj, cl_inj, sl_inj, Value.int.injEq, Value.bool.injEq, true_and, and_true] at h; simp only [out21, h]
theorem ok21 {gl : Nat → C} (hgn : ∀ g, noRef 0 (gl g) = true) (hg0 : gl 0 = .kp (cl wC kc)) (hg1 : gl 1 = .kp (cl wC kc)) (M : Nat) : CxOK (cxP gl M pu21) := CxOK.ext2 (N := 0) (ok20 hgn hg0 hg1 0) nr21 fun x => fc26 (ok20 hgn hg0 hg1 0)  ((x.1)) x.2
theorem hno21 : ∀ (g : Nat) (xs : List C), refy xs = true → pu21 g xs = none := hno_ext hno20 nr21
theorem hit21 (h : List UInt8) (hc0 : h.length = 16) : pu21 26 [.agg (cl bC h)] = some (.val (str h)) :=
  (ext_hit _).trans (tabOf_enc ij21 ⟨(h), hc0⟩)

abbrev D22 := {x : (List UInt8) // ((x).length < 35184372088832)}
def enc22 (x : D22) : List C := [.val (str (x.1))]
def out22 (x : D22) : C := .val (str (hexs (x.1)))
noncomputable def pu22 : Nat → List C → Option C := Sx.ext pu21 25 (tabOf enc22 out22)
theorem nr22 (x : D22) : noRefs 0 (enc22 x) = true := by
  simp only [enc22, noRef_val, noRef_agg, noRef_tup, noRef_kp, noRef_sl, noRefs_cl, noRefs_cons, noRefs_nil, noRefs_app, Bool.and_self, Bool.and_true]
theorem ij22 (x y : D22) (h : enc22 x = enc22 y) : out22 x = out22 y := by
  simp only [enc22, List.cons.injEq, C.val.injEq, C.agg.injEq, C.kp.injEq, str_inj, nI_inj, nU_inj, w8_inj, w32_inj, cl_inj, sl_inj, Value.int.injEq, Value.bool.injEq, true_and, and_true] at h; simp only [out22, h]
theorem ok22 {gl : Nat → C} (hgn : ∀ g, noRef 0 (gl g) = true) (hg0 : gl 0 = .kp (cl wC kc)) (hg1 : gl 1 = .kp (cl wC kc)) (M : Nat) : CxOK (cxP gl M pu22) := CxOK.ext2 (N := 0) (ok21 hgn hg0 hg1 0) nr22 fun x => fc25 (ok21 hgn hg0 hg1 0)  ((x.1)) x.2
theorem hno22 : ∀ (g : Nat) (xs : List C), refy xs = true → pu22 g xs = none := hno_ext hno21 nr22
theorem hit22 (s : List UInt8) (hc0 : s.length < 35184372088832) : pu22 25 [.val (str s)] = some (.val (str (hexs s))) :=
  (ext_hit _).trans (tabOf_enc ij22 ⟨(s), hc0⟩)

abbrev D23 := {x : (List UInt8) // ((x).length < 35184372088832)}
def enc23 (x : D23) : List C := [sl bC .no (x.1)]
def out23 (x : D23) : C := sl bC (.own 1) ((x.1) ++ pad (x.1).length)
noncomputable def pu23 : Nat → List C → Option C := Sx.ext pu22 27 (tabOf enc23 out23)
theorem nr23 (x : D23) : noRefs 0 (enc23 x) = true := by
  simp only [enc23, noRef_val, noRef_agg, noRef_tup, noRef_kp, noRef_sl, noRefs_cl, noRefs_cons, noRefs_nil, noRefs_app, Bool.and_self, Bool.and_true]
theorem ij23 (x y : D23) (h : enc23 x = enc23 y) : out23 x = out23 y := by
  simp only [enc23, List.cons.injEq, C.val.injEq, C.agg.injEq, C.kp.injEq, str_inj, nI_inj, nU_inj, w8_inj, w32_inj, cl_inj, sl_inj, Value.int.injEq, Value.bool.injEq, true_and, and_true] at h; simp only [out23, h]
theorem ok23 {gl : Nat → C} (hgn : ∀ g, noRef 0 (gl g) = true) (hg0 : gl 0 = .kp (cl wC kc)) (hg1 : gl 1 = .kp (cl wC kc)) (M : Nat) : CxOK (cxP gl M pu23) := CxOK.ext2 (N := 0) (ok22 hgn hg0 hg1 0) nr23 fun x => fc27 (ok22 hgn hg0 hg1 0)  ((x.1)) x.2
theorem hno23 : ∀ (g : Nat) (xs : List C), refy xs = true → pu23 g xs = none := hno_ext hno22 nr23
theorem hit23 (b : List UInt8) (hc0 : b.length < 35184372088832) : pu23 27 [sl bC .no b] = some (sl bC (.own 1) (b ++ pad b.length)) :=
  (ext_hit _).trans (tabOf_enc ij23 ⟨(b), hc0⟩)

abbrev D24 := {x : (List UInt8) // ((x).length = 64)}
def enc24 (x : D24) : List C := [sl bC .no (x.1)]
def out24 (x : D24) : C := .agg (cl wC (sched (x.1) 64))
noncomputable def pu24 : Nat → List C → Option C := Sx.ext pu23 28 (tabOf enc24 out24)
theorem nr24 (x : D24) : noRefs 0 (enc24 x) = true := by
  simp only [enc24, noRef_val, noRef_agg, noRef_tup, noRef_kp, noRef_sl, noRefs_cl, noRefs_cons, noRefs_nil, noRefs_app, Bool.and_self, Bool.and_true]
theorem ij24 (x y : D24) (h : enc24 x = enc24 y) : out24 x = out24 y := by
  simp only [enc24, List.cons.injEq, C.val.injEq, C.agg.injEq, C.kp.injEq, str_inj, nI_inj, nU_inj, w8_inj, w32_inj, cl_inj, sl_inj, Value.int.injEq, Value.bool.injEq, true_and, and_true] at h; simp only [out24, h]
theorem ok24 {gl : Nat → C} (hgn : ∀ g, noRef 0 (gl g) = true) (hg0 : gl 0 = .kp (cl wC kc)) (hg1 : gl 1 = .kp (cl wC kc)) (M : Nat) : CxOK (cxP gl M pu24) := CxOK.ext2 (N := 0) (ok23 hgn hg0 hg1 0) nr24 fun x => fc28 (ok23 hgn hg0 hg1 0) (show ∀ x n, n < 32 → pu23 29 [.val (w32 x), .val (nI n)] = some (.val (w32 (rr x n))) from by intros; rw [pu23, ext_miss (by decide), pu22, ext_miss (by decide), pu21, ext_miss (by decide), pu20, ext_miss (by decide), pu19, ext_miss (by decide), pu18, ext_miss (by decide), pu17, ext_miss (by decide), pu16, ext_miss (by decide), pu15, ext_miss (by decide), pu14, ext_miss (by decide), pu13, ext_miss (by decide), pu12, ext_miss (by decide), pu11, ext_miss (by decide), pu10, ext_miss (by decide), pu9, ext_miss (by decide), pu8, ext_miss (by decide), pu7, ext_miss (by decide), pu6, ext_miss (by decide), pu5, ext_miss (by decide), pu4, ext_miss (by decide)]; apply hit3 <;> assumption) ((x.1)) x.2
theorem hno24 : ∀ (g : Nat) (xs : List C), refy xs = true → pu24 g xs = none := hno_ext hno23 nr24
theorem hit24 (b : List UInt8) (hc0 : b.length = 64) : pu24 28 [sl bC .no b] = some (.agg (cl wC (sched b 64))) :=
  (ext_hit _).trans (tabOf_enc ij24 ⟨(b), hc0⟩)

abbrev D25 := {x : (List UInt8) // ((x).length < 35184372088832)}
def enc25 (x : D25) : List C := [sl bC .no (x.1)]
def out25 (x : D25) : C := .agg (cl bC (sha (x.1)))
noncomputable def pu25 : Nat → List C → Option C := Sx.ext pu24 12 (tabOf enc25 out25)
theorem nr25 (x : D25) : noRefs 0 (enc25 x) = true := by
  simp only [enc25, noRef_val, noRef_agg, noRef_tup, noRef_kp, noRef_sl, noRefs_cl, noRefs_cons, noRefs_nil, noRefs_app, Bool.and_self, Bool.and_true]
theorem ij25 (x y : D25) (h : enc25 x = enc25 y) : out25 x = out25 y := by
  simp only [enc25, List.cons.injEq, C.val.injEq, C.agg.injEq, C.kp.injEq, str_inj, nI_inj, nU_inj, w8_inj, w32_inj, cl_inj, sl_inj, Value.int.injEq, Value.bool.injEq, true_and, and_true] at h; simp only [out25, h]
theorem ok25 {gl : Nat → C} (hgn : ∀ g, noRef 0 (gl g) = true) (hg0 : gl 0 = .kp (cl wC kc)) (hg1 : gl 1 = .kp (cl wC kc)) (M : Nat) : CxOK (cxP gl M pu25) := CxOK.ext2 (N := 0) (ok24 hgn hg0 hg1 0) nr25 fun x => fc12 (ok24 hgn hg0 hg1 0) hg0 (show ∀ b : List UInt8, b.length < 35184372088832 → pu24 27 [sl bC .no b] = some (sl bC (.own 1) (b ++ pad b.length)) from by intros; rw [pu24, ext_miss (by decide)]; apply hit23 <;> assumption) (show ∀ b : List UInt8, b.length = 64 → pu24 28 [sl bC .no b] = some (.agg (cl wC (sched b 64))) from by intros; apply hit24 <;> assumption) (show ∀ x n, n < 32 → pu24 29 [.val (w32 x), .val (nI n)] = some (.val (w32 (rr x n))) from by intros; rw [pu24, ext_miss (by decide), pu23, ext_miss (by decide), pu22, ext_miss (by decide), pu21, ext_miss (by decide), pu20, ext_miss (by decide), pu19, ext_miss (by decide), pu18, ext_miss (by decide), pu17, ext_miss (by decide), pu16, ext_miss (by decide), pu15, ext_miss (by decide), pu14, ext_miss (by decide), pu13, ext_miss (by decide), pu12, ext_miss (by decide), pu11, ext_miss (by decide), pu10, ext_miss (by decide), pu9, ext_miss (by decide), pu8, ext_miss (by decide), pu7, ext_miss (by decide), pu6, ext_miss (by decide), pu5, ext_miss (by decide), pu4, ext_miss (by decide)]; apply hit3 <;> assumption) ((x.1)) x.2
theorem hno25 : ∀ (g : Nat) (xs : List C), refy xs = true → pu25 g xs = none := hno_ext hno24 nr25
theorem hit25 (b : List UInt8) (hc0 : b.length < 35184372088832) : pu25 12 [sl bC .no b] = some (.agg (cl bC (sha b))) :=
  (ext_hit _).trans (tabOf_enc ij25 ⟨(b), hc0⟩)

abbrev D26 := {x : (List UInt8) × UInt8 // ((x.1).length < 35184372088832)}
def enc26 (x : D26) : List C := [.val (str (x.1.1)), .val (w8 (x.1.2))]
def out26 (x : D26) : C := sl bC (.own 1) (padk (keyOf (x.1.1)) (x.1.2))
noncomputable def pu26 : Nat → List C → Option C := Sx.ext pu25 32 (tabOf enc26 out26)
theorem nr26 (x : D26) : noRefs 0 (enc26 x) = true := by
  simp only [enc26, noRef_val, noRef_agg, noRef_tup, noRef_kp, noRef_sl, noRefs_cl, noRefs_cons, noRefs_nil, noRefs_app, Bool.and_self, Bool.and_true]
theorem ij26 (x y : D26) (h : enc26 x = enc26 y) : out26 x = out26 y := by
  simp only [enc26, List.cons.injEq, C.val.injEq, C.agg.injEq, C.kp.injEq, str_inj, nI_inj, nU_inj, w8_inj, w32_inj, cl_inj, sl_inj, Value.int.injEq, Value.bool.injEq, true_and, and_true] at h; simp only [out26, h]
theorem ok26 {gl : Nat → C} (hgn : ∀ g, noRef 0 (gl g) = true) (hg0 : gl 0 = .kp (cl wC kc)) (hg1 : gl 1 = .kp (cl wC kc)) (M : Nat) : CxOK (cxP gl M pu26) := CxOK.ext2 (N := 0) (ok25 hgn hg0 hg1 0) nr26 fun x => fc32 (ok25 hgn hg0 hg1 0) (show ∀ b : List UInt8, b.length < 35184372088832 → pu25 12 [sl bC .no b] = some (.agg (cl bC (sha b))) from by intros; apply hit25 <;> assumption) (show ∀ h : List UInt8, h.length = 32 → pu25 20 [.agg (cl bC h)] = some (.val (str h)) from by intros; rw [pu25, ext_miss (by decide), pu24, ext_miss (by decide), pu23, ext_miss (by decide), pu22, ext_miss (by decide), pu21, ext_miss (by decide)]; apply hit20 <;> assumption) ((x.1.1)) ((x.1.2)) x.2
theorem hno26 : ∀ (g : Nat) (xs : List C), refy xs = true → pu26 g xs = none := hno_ext hno25 nr26
theorem hit26 (key : List UInt8) (x : UInt8) (hc0 : key.length < 35184372088832) : pu26 32 [.val (str key), .val (w8 x)] = some (sl bC (.own 1) (padk (keyOf key) x)) :=
  (ext_hit _).trans (tabOf_enc ij26 ⟨(key, x), hc0⟩)

abbrev D27 := {x : (List UInt8) × (List UInt8) // ((x.1).length < 1099511627776) ∧ ((x.2).length < 1099511627776)}
def enc27 (x : D27) : List C := [.val (str (x.1.1)), .val (str (x.1.2))]
def out27 (x : D27) : C := .val (str (hmac (x.1.1) (x.1.2)))
noncomputable def pu27 : Nat → List C → Option C := Sx.ext pu26 19 (tabOf enc27 out27)
theorem nr27 (x : D27) : noRefs 0 (enc27 x) = true := by
  simp only [enc27, noRef_val, noRef_agg, noRef_tup, noRef_kp, noRef_sl, noRefs_cl, noRefs_cons, noRefs_nil, noRefs_app, Bool.and_self, Bool.and_true]
theorem ij27 (x y : D27) (h : enc27 x = enc27 y) : out27 x = out27 y := by
  simp only [enc27, List.cons.injEq, C.val.injEq, C.agg.injEq, C.kp.injEq, str_inj, nI_inj, nU_inj, w8_inj, w32_inj, cl_inj, sl_inj, Value.int.injEq, Value.bool.injEq, true_and, and_true] at h; simp only [out27, h]
theorem ok27 {gl : Nat → C} (hgn : ∀ g, noRef 0 (gl g) = true) (hg0 : gl 0 = .kp (cl wC kc)) (hg1 : gl 1 = .kp (cl wC kc)) (M : Nat) : CxOK (cxP gl M pu27) := CxOK.ext2 (N := 0) (ok26 hgn hg0 hg1 0) nr27 fun x => fc19 (ok26 hgn hg0 hg1 0) (show ∀ (key : List UInt8) (x : UInt8), key.length < 35184372088832 → pu26 32 [.val (str key), .val (w8 x)] = some (sl bC (.own 1) (padk (keyOf key) x)) from by intros; apply hit26 <;> assumption) (show ∀ b : List UInt8, b.length < 35184372088832 → pu26 12 [sl bC .no b] = some (.agg (cl bC (sha b))) from by intros; rw [pu26, ext_miss (by decide)]; apply hit25 <;> assumption) (show ∀ h : List UInt8, h.length = 32 → pu26 20 [.agg (cl bC h)] = some (.val (str h)) from by intros; rw [pu26, ext_miss (by decide), pu25, ext_miss (by decide), pu24, ext_miss (by decide), pu23, ext_miss (by decide), pu22, ext_miss (by decide), pu21, ext_miss (by decide)]; apply hit20 <;> assumption) ((x.1.1)) ((x.1.2)) x.2.1 x.2.2
theorem hno27 : ∀ (g : Nat) (xs : List C), refy xs = true → pu27 g xs = none := hno_ext hno26 nr27
theorem hit27 (key : List UInt8) (t : List UInt8) (hc0 : key.length < 1099511627776) (hc1 : t.length < 1099511627776) : pu27 19 [.val (str key), .val (str t)] = some (.val (str (hmac key t))) :=
  (ext_hit _).trans (tabOf_enc ij27 ⟨(key, t), ⟨hc0, hc1⟩⟩)

abbrev D28 := {x : (List UInt8) // ((x).length < 35184372088832)}
def enc28 (x : D28) : List C := [sl bC .no (x.1)]
def out28 (x : D28) : C := .agg (cl bC ((sha (x.1)).take 16))
noncomputable def pu28 : Nat → List C → Option C := Sx.ext pu27 34 (tabOf enc28 out28)
theorem nr28 (x : D28) : noRefs 0 (enc28 x) = true := by
  simp only [enc28, noRef_val, noRef_agg, noRef_tup, noRef_kp, noRef_sl, noRefs_cl, noRefs_cons, noRefs_nil, noRefs_app, Bool.and_self, Bool.and_true]
theorem ij28 (x y : D28) (h : enc28 x = enc28 y) : out28 x = out28 y := by
  simp only [enc28, List.cons.injEq, C.val.injEq, C.agg.injEq, C.kp.injEq, str_inj, nI_inj, nU_inj, w8_inj, w32_inj, cl_inj, sl_inj, Value.int.injEq, Value.bool.injEq, true_and, and_true] at h; simp only [out28, h]
theorem ok28 {gl : Nat → C} (hgn : ∀ g, noRef 0 (gl g) = true) (hg0 : gl 0 = .kp (cl wC kc)) (hg1 : gl 1 = .kp (cl wC kc)) (M : Nat) : CxOK (cxP gl M pu28) := CxOK.ext2 (N := 0) (ok27 hgn hg0 hg1 0) nr28 fun x => fc34 (ok27 hgn hg0 hg1 0) (show ∀ b : List UInt8, b.length < 35184372088832 → pu27 12 [sl bC .no b] = some (.agg (cl bC (sha b))) from by intros; rw [pu27, ext_miss (by decide), pu26, ext_miss (by decide)]; apply hit25 <;> assumption) ((x.1)) x.2
theorem hno28 : ∀ (g : Nat) (xs : List C), refy xs = true → pu28 g xs = none := hno_ext hno27 nr28
theorem hit28 (b : List UInt8) (hc0 : b.length < 35184372088832) : pu28 34 [sl bC .no b] = some (.agg (cl bC ((sha b).take 16))) :=
  (ext_hit _).trans (tabOf_enc ij28 ⟨(b), hc0⟩)

abbrev D29 := {x : Int × (List (List UInt8)) // ((inp (x.1) (x.2)).length < 1099511627776)}
def enc29 (x : D29) : List C := [.val (.int .i64 (x.1.1)), sl sC .no (x.1.2)]
def out29 (x : D29) : C := sl bC (.own 1) (inp (x.1.1) (x.1.2))
noncomputable def pu29 : Nat → List C → Option C := Sx.ext pu28 23 (tabOf enc29 out29)
theorem nr29 (x : D29) : noRefs 0 (enc29 x) = true := by
  simp only [enc29, noRef_val, noRef_agg, noRef_tup, noRef_kp, noRef_sl, noRefs_cl, noRefs_cons, noRefs_nil, noRefs_app, Bool.and_self, Bool.and_true]
theorem ij29 (x y : D29) (h : enc29 x = enc29 y) : out29 x = out29 y := by
  simp only [enc29, List.cons.injEq, C.val.injEq, C.agg.injEq, C.kp.injEq, str_inj, nI_inj, nU_inj, w8_inj, w32_inj, cl_inj, sl_inj, Value.int.injEq, Value.bool.injEq, true_and, and_true] at h; simp only [out29, h]
theorem ok29 {gl : Nat → C} (hgn : ∀ g, noRef 0 (gl g) = true) (hg0 : gl 0 = .kp (cl wC kc)) (hg1 : gl 1 = .kp (cl wC kc)) (M : Nat) : CxOK (cxP gl M pu29) := CxOK.ext2 (N := 0) (ok28 hgn hg0 hg1 0) nr29 fun x => fc23 (ok28 hgn hg0 hg1 0) (show ∀ s : List UInt8, s.length < 70368744177664 → pu28 35 [.val (str s)] = some (sl bC (.own 1) (wb s)) from by intros; rw [pu28, ext_miss (by decide), pu27, ext_miss (by decide), pu26, ext_miss (by decide), pu25, ext_miss (by decide), pu24, ext_miss (by decide), pu23, ext_miss (by decide), pu22, ext_miss (by decide), pu21, ext_miss (by decide), pu20, ext_miss (by decide), pu19, ext_miss (by decide), pu18, ext_miss (by decide)]; apply hit17 <;> assumption) ((x.1.1)) ((x.1.2)) x.2
theorem hno29 : ∀ (g : Nat) (xs : List C), refy xs = true → pu29 g xs = none := hno_ext hno28 nr29
theorem hit29 (tag : Int) (parts : List (List UInt8)) (hc0 : (inp tag parts).length < 1099511627776) : pu29 23 [.val (.int .i64 tag), sl sC .no parts] = some (sl bC (.own 1) (inp tag parts)) :=
  (ext_hit _).trans (tabOf_enc ij29 ⟨(tag, parts), hc0⟩)

abbrev D30 := {x : Int × (List (List UInt8)) // ((inp (x.1) (x.2)).length < 1099511627776)}
def enc30 (x : D30) : List C := [.val (.int .i64 (x.1.1)), sl sC .no (x.1.2)]
def out30 (x : D30) : C := .agg (cl bC ((sha (inp (x.1.1) (x.1.2))).take 16))
noncomputable def pu30 : Nat → List C → Option C := Sx.ext pu29 22 (tabOf enc30 out30)
theorem nr30 (x : D30) : noRefs 0 (enc30 x) = true := by
  simp only [enc30, noRef_val, noRef_agg, noRef_tup, noRef_kp, noRef_sl, noRefs_cl, noRefs_cons, noRefs_nil, noRefs_app, Bool.and_self, Bool.and_true]
theorem ij30 (x y : D30) (h : enc30 x = enc30 y) : out30 x = out30 y := by
  simp only [enc30, List.cons.injEq, C.val.injEq, C.agg.injEq, C.kp.injEq, str_inj, nI_inj, nU_inj, w8_inj, w32_inj, cl_inj, sl_inj, Value.int.injEq, Value.bool.injEq, true_and, and_true] at h; simp only [out30, h]
theorem ok30 {gl : Nat → C} (hgn : ∀ g, noRef 0 (gl g) = true) (hg0 : gl 0 = .kp (cl wC kc)) (hg1 : gl 1 = .kp (cl wC kc)) (M : Nat) : CxOK (cxP gl M pu30) := CxOK.ext2 (N := 0) (ok29 hgn hg0 hg1 0) nr30 fun x => fc22 (ok29 hgn hg0 hg1 0) (show ∀ (tag : Int) (parts : List (List UInt8)), (inp tag parts).length < 1099511627776 → pu29 23 [.val (.int .i64 tag), sl sC .no parts] = some (sl bC (.own 1) (inp tag parts)) from by intros; apply hit29 <;> assumption) (show ∀ b : List UInt8, b.length < 35184372088832 → pu29 34 [sl bC .no b] = some (.agg (cl bC ((sha b).take 16))) from by intros; rw [pu29, ext_miss (by decide)]; apply hit28 <;> assumption) ((x.1.1)) ((x.1.2)) x.2
theorem hno30 : ∀ (g : Nat) (xs : List C), refy xs = true → pu30 g xs = none := hno_ext hno29 nr30
theorem hit30 (tag : Int) (parts : List (List UInt8)) (hc0 : (inp tag parts).length < 1099511627776) : pu30 22 [.val (.int .i64 tag), sl sC .no parts] = some (.agg (cl bC ((sha (inp tag parts)).take 16))) :=
  (ext_hit _).trans (tabOf_enc ij30 ⟨(tag, parts), hc0⟩)

abbrev D31 := {x : Unit // True}
def enc31 (x : D31) : List C := ([] : List C)
def out31 (x : D31) : C := .val (.bool true)
noncomputable def pu31 : Nat → List C → Option C := Sx.ext pu30 10 (tabOf enc31 out31)
theorem nr31 (x : D31) : noRefs 0 (enc31 x) = true := by
  simp only [enc31, noRef_val, noRef_agg, noRef_tup, noRef_kp, noRef_sl, noRefs_cl, noRefs_cons, noRefs_nil, noRefs_app, Bool.and_self, Bool.and_true]
theorem ij31 (x y : D31) (h : enc31 x = enc31 y) : out31 x = out31 y := by
  rfl
theorem ok31 {gl : Nat → C} (hgn : ∀ g, noRef 0 (gl g) = true) (hg0 : gl 0 = .kp (cl wC kc)) (hg1 : gl 1 = .kp (cl wC kc)) (M : Nat) : CxOK (cxP gl M pu31) := CxOK.ext2 (N := 0) (ok30 hgn hg0 hg1 0) nr31 fun x => fc10 (ok30 hgn hg0 hg1 0) (show ∀ b : List UInt8, b.length < 140737488355328 → pu30 11 [sl bC .no b] = some (.agg (cl bC (sha b))) from by intros; rw [pu30, ext_miss (by decide), pu29, ext_miss (by decide), pu28, ext_miss (by decide), pu27, ext_miss (by decide), pu26, ext_miss (by decide), pu25, ext_miss (by decide), pu24, ext_miss (by decide), pu23, ext_miss (by decide), pu22, ext_miss (by decide), pu21, ext_miss (by decide), pu20, ext_miss (by decide), pu19, ext_miss (by decide), pu18, ext_miss (by decide), pu17, ext_miss (by decide), pu16, ext_miss (by decide), pu15, ext_miss (by decide), pu14, ext_miss (by decide), pu13, ext_miss (by decide), pu12, ext_miss (by decide), pu11, ext_miss (by decide), pu10, ext_miss (by decide)]; apply hit9 <;> assumption) (show pu30 14 [] = some (.agg F0.cells) from by intros; rw [pu30, ext_miss (by decide), pu29, ext_miss (by decide), pu28, ext_miss (by decide), pu27, ext_miss (by decide), pu26, ext_miss (by decide), pu25, ext_miss (by decide), pu24, ext_miss (by decide), pu23, ext_miss (by decide), pu22, ext_miss (by decide), pu21, ext_miss (by decide), pu20, ext_miss (by decide), pu19, ext_miss (by decide), pu18, ext_miss (by decide), pu17, ext_miss (by decide), pu16, ext_miss (by decide), pu15, ext_miss (by decide), pu14, ext_miss (by decide), pu13, ext_miss (by decide), pu12, ext_miss (by decide), pu11, ext_miss (by decide), pu10, ext_miss (by decide), pu9, ext_miss (by decide), pu8, ext_miss (by decide), pu7, ext_miss (by decide)]; apply hit6 <;> assumption) (show ∀ (s : S8) (blk : List UInt8) (n : Nat) (t : List UInt8), blk.length = 64 → n + t.length < 1152921504606846976 → pu30 15 [.agg (cl wC s.l ++ (cl bC blk ++ [.val (nU n)])), .val (str t)] = some (.agg (feed ⟨s, blk, n⟩ t).cells) from by intros; rw [pu30, ext_miss (by decide), pu29, ext_miss (by decide), pu28, ext_miss (by decide), pu27, ext_miss (by decide), pu26, ext_miss (by decide), pu25, ext_miss (by decide), pu24, ext_miss (by decide), pu23, ext_miss (by decide), pu22, ext_miss (by decide), pu21, ext_miss (by decide), pu20, ext_miss (by decide), pu19, ext_miss (by decide), pu18, ext_miss (by decide), pu17, ext_miss (by decide), pu16, ext_miss (by decide), pu15, ext_miss (by decide), pu14, ext_miss (by decide), pu13, ext_miss (by decide), pu12, ext_miss (by decide), pu11, ext_miss (by decide), pu10, ext_miss (by decide), pu9, ext_miss (by decide), pu8, ext_miss (by decide)]; apply hit7 <;> assumption) (show ∀ (s : S8) (blk : List UInt8) (n : Nat), blk.length = 64 → n < 576460752303423488 → pu30 17 [.agg (cl wC s.l ++ (cl bC blk ++ [.val (nU n)]))] = some (.agg (cl bC (sumF ⟨s, blk, n⟩))) from by intros; rw [pu30, ext_miss (by decide), pu29, ext_miss (by decide), pu28, ext_miss (by decide), pu27, ext_miss (by decide), pu26, ext_miss (by decide), pu25, ext_miss (by decide), pu24, ext_miss (by decide), pu23, ext_miss (by decide), pu22, ext_miss (by decide), pu21, ext_miss (by decide), pu20, ext_miss (by decide), pu19, ext_miss (by decide), pu18, ext_miss (by decide), pu17, ext_miss (by decide), pu16, ext_miss (by decide), pu15, ext_miss (by decide), pu14, ext_miss (by decide), pu13, ext_miss (by decide), pu12, ext_miss (by decide), pu11, ext_miss (by decide), pu10, ext_miss (by decide), pu9, ext_miss (by decide)]; apply hit8 <;> assumption) (show ∀ key t : List UInt8, key.length < 1099511627776 → t.length < 1099511627776 → pu30 18 [.val (str key), .val (str t)] = some (.val (str (hmac key t))) from by intros; rw [pu30, ext_miss (by decide), pu29, ext_miss (by decide), pu28, ext_miss (by decide), pu27, ext_miss (by decide), pu26, ext_miss (by decide), pu25, ext_miss (by decide), pu24, ext_miss (by decide), pu23, ext_miss (by decide), pu22, ext_miss (by decide), pu21, ext_miss (by decide), pu20, ext_miss (by decide), pu19, ext_miss (by decide), pu18, ext_miss (by decide), pu17, ext_miss (by decide), pu16, ext_miss (by decide), pu15, ext_miss (by decide), pu14, ext_miss (by decide), pu13, ext_miss (by decide), pu12, ext_miss (by decide)]; apply hit11 <;> assumption) (show ∀ h : List UInt8, h.length = 32 → pu30 20 [.agg (cl bC h)] = some (.val (str h)) from by intros; rw [pu30, ext_miss (by decide), pu29, ext_miss (by decide), pu28, ext_miss (by decide), pu27, ext_miss (by decide), pu26, ext_miss (by decide), pu25, ext_miss (by decide), pu24, ext_miss (by decide), pu23, ext_miss (by decide), pu22, ext_miss (by decide), pu21, ext_miss (by decide)]; apply hit20 <;> assumption) (show ∀ (tag : Int) (parts : List (List UInt8)), (inp tag parts).length < 1099511627776 → pu30 21 [.val (.int .i64 tag), sl sC .no parts] = some (.agg (cl bC ((sha (inp tag parts)).take 16))) from by intros; rw [pu30, ext_miss (by decide), pu29, ext_miss (by decide), pu28, ext_miss (by decide), pu27, ext_miss (by decide), pu26, ext_miss (by decide), pu25, ext_miss (by decide), pu24, ext_miss (by decide), pu23, ext_miss (by decide), pu22, ext_miss (by decide), pu21, ext_miss (by decide), pu20, ext_miss (by decide), pu19, ext_miss (by decide), pu18, ext_miss (by decide), pu17, ext_miss (by decide), pu16, ext_miss (by decide), pu15, ext_miss (by decide)]; apply hit14 <;> assumption) (show ∀ x y : List UInt8, x.length < 1099511627776 → y.length < 1099511627776 → pu30 24 [.val (str x), .val (str y)] = some (.val (.bool (decide (x = y)))) from by intros; rw [pu30, ext_miss (by decide), pu29, ext_miss (by decide), pu28, ext_miss (by decide), pu27, ext_miss (by decide), pu26, ext_miss (by decide), pu25, ext_miss (by decide), pu24, ext_miss (by decide), pu23, ext_miss (by decide), pu22, ext_miss (by decide), pu21, ext_miss (by decide), pu20, ext_miss (by decide), pu19, ext_miss (by decide), pu18, ext_miss (by decide), pu17, ext_miss (by decide), pu16, ext_miss (by decide)]; apply hit15 <;> assumption) (show ∀ s : List UInt8, s.length < 35184372088832 → pu30 25 [.val (str s)] = some (.val (str (hexs s))) from by intros; rw [pu30, ext_miss (by decide), pu29, ext_miss (by decide), pu28, ext_miss (by decide), pu27, ext_miss (by decide), pu26, ext_miss (by decide), pu25, ext_miss (by decide), pu24, ext_miss (by decide), pu23, ext_miss (by decide)]; apply hit22 <;> assumption) (show ∀ h : List UInt8, h.length = 16 → pu30 26 [.agg (cl bC h)] = some (.val (str h)) from by intros; rw [pu30, ext_miss (by decide), pu29, ext_miss (by decide), pu28, ext_miss (by decide), pu27, ext_miss (by decide), pu26, ext_miss (by decide), pu25, ext_miss (by decide), pu24, ext_miss (by decide), pu23, ext_miss (by decide), pu22, ext_miss (by decide)]; apply hit21 <;> assumption) 
theorem hno31 : ∀ (g : Nat) (xs : List C), refy xs = true → pu31 g xs = none := hno_ext hno30 nr31
theorem hit31   : pu31 10 ([] : List C) = some (.val (.bool true)) :=
  (ext_hit _).trans (tabOf_enc ij31 ⟨(), trivial⟩)

theorem law3 {gl : Nat → C} (hgn : ∀ g, noRef 0 (gl g) = true) (hg0 : gl 0 = .kp (cl wC kc)) (hg1 : gl 1 = .kp (cl wC kc)) (b : List UInt8)  : FC Tryd.prog gl 3 [sl bC .no b] [] (.val (.bool true)) [] := fc3 (ok31 hgn hg0 hg1 0) (show pu31 10 [] = some (.val (.bool true)) from by intros; apply hit31 <;> assumption) (show ∀ b : List UInt8, b.length < 140737488355328 → pu31 11 [sl bC .no b] = some (.agg (cl bC (sha b))) from by intros; rw [pu31, ext_miss (by decide), pu30, ext_miss (by decide), pu29, ext_miss (by decide), pu28, ext_miss (by decide), pu27, ext_miss (by decide), pu26, ext_miss (by decide), pu25, ext_miss (by decide), pu24, ext_miss (by decide), pu23, ext_miss (by decide), pu22, ext_miss (by decide), pu21, ext_miss (by decide), pu20, ext_miss (by decide), pu19, ext_miss (by decide), pu18, ext_miss (by decide), pu17, ext_miss (by decide), pu16, ext_miss (by decide), pu15, ext_miss (by decide), pu14, ext_miss (by decide), pu13, ext_miss (by decide), pu12, ext_miss (by decide), pu11, ext_miss (by decide), pu10, ext_miss (by decide)]; apply hit9 <;> assumption) (show ∀ b : List UInt8, b.length < 35184372088832 → pu31 12 [sl bC .no b] = some (.agg (cl bC (sha b))) from by intros; rw [pu31, ext_miss (by decide), pu30, ext_miss (by decide), pu29, ext_miss (by decide), pu28, ext_miss (by decide), pu27, ext_miss (by decide), pu26, ext_miss (by decide)]; apply hit25 <;> assumption) (b)

theorem law4 {gl : Nat → C} (hgn : ∀ g, noRef 0 (gl g) = true) (hg0 : gl 0 = .kp (cl wC kc)) (hg1 : gl 1 = .kp (cl wC kc)) (ps : List (List UInt8)) (o : List UInt8) (at8 : UInt8)  : FC Tryd.prog gl 4 [sl sC .no ps, .val (str o), .val (w8 at8)] [] (.val (.bool true)) [] := fc4 (ok31 hgn hg0 hg1 0) (show pu31 10 [] = some (.val (.bool true)) from by intros; apply hit31 <;> assumption) (show ∀ b : List UInt8, b.length < 140737488355328 → pu31 11 [sl bC .no b] = some (.agg (cl bC (sha b))) from by intros; rw [pu31, ext_miss (by decide), pu30, ext_miss (by decide), pu29, ext_miss (by decide), pu28, ext_miss (by decide), pu27, ext_miss (by decide), pu26, ext_miss (by decide), pu25, ext_miss (by decide), pu24, ext_miss (by decide), pu23, ext_miss (by decide), pu22, ext_miss (by decide), pu21, ext_miss (by decide), pu20, ext_miss (by decide), pu19, ext_miss (by decide), pu18, ext_miss (by decide), pu17, ext_miss (by decide), pu16, ext_miss (by decide), pu15, ext_miss (by decide), pu14, ext_miss (by decide), pu13, ext_miss (by decide), pu12, ext_miss (by decide), pu11, ext_miss (by decide), pu10, ext_miss (by decide)]; apply hit9 <;> assumption) (show ∀ b : List UInt8, b.length < 35184372088832 → pu31 12 [sl bC .no b] = some (.agg (cl bC (sha b))) from by intros; rw [pu31, ext_miss (by decide), pu30, ext_miss (by decide), pu29, ext_miss (by decide), pu28, ext_miss (by decide), pu27, ext_miss (by decide), pu26, ext_miss (by decide)]; apply hit25 <;> assumption) (show ∀ l : List (List UInt8), pu31 13 [sl sC .no l] = some (.val (.bool (few l))) from by intros; rw [pu31, ext_miss (by decide), pu30, ext_miss (by decide), pu29, ext_miss (by decide), pu28, ext_miss (by decide), pu27, ext_miss (by decide), pu26, ext_miss (by decide), pu25, ext_miss (by decide), pu24, ext_miss (by decide), pu23, ext_miss (by decide), pu22, ext_miss (by decide), pu21, ext_miss (by decide), pu20, ext_miss (by decide), pu19, ext_miss (by decide)]; apply hit18 <;> assumption) (show pu31 14 [] = some (.agg F0.cells) from by intros; rw [pu31, ext_miss (by decide), pu30, ext_miss (by decide), pu29, ext_miss (by decide), pu28, ext_miss (by decide), pu27, ext_miss (by decide), pu26, ext_miss (by decide), pu25, ext_miss (by decide), pu24, ext_miss (by decide), pu23, ext_miss (by decide), pu22, ext_miss (by decide), pu21, ext_miss (by decide), pu20, ext_miss (by decide), pu19, ext_miss (by decide), pu18, ext_miss (by decide), pu17, ext_miss (by decide), pu16, ext_miss (by decide), pu15, ext_miss (by decide), pu14, ext_miss (by decide), pu13, ext_miss (by decide), pu12, ext_miss (by decide), pu11, ext_miss (by decide), pu10, ext_miss (by decide), pu9, ext_miss (by decide), pu8, ext_miss (by decide), pu7, ext_miss (by decide)]; apply hit6 <;> assumption) (show ∀ (s : S8) (blk : List UInt8) (n : Nat) (t : List UInt8), blk.length = 64 → n + t.length < 1152921504606846976 → pu31 15 [.agg (cl wC s.l ++ (cl bC blk ++ [.val (nU n)])), .val (str t)] = some (.agg (feed ⟨s, blk, n⟩ t).cells) from by intros; rw [pu31, ext_miss (by decide), pu30, ext_miss (by decide), pu29, ext_miss (by decide), pu28, ext_miss (by decide), pu27, ext_miss (by decide), pu26, ext_miss (by decide), pu25, ext_miss (by decide), pu24, ext_miss (by decide), pu23, ext_miss (by decide), pu22, ext_miss (by decide), pu21, ext_miss (by decide), pu20, ext_miss (by decide), pu19, ext_miss (by decide), pu18, ext_miss (by decide), pu17, ext_miss (by decide), pu16, ext_miss (by decide), pu15, ext_miss (by decide), pu14, ext_miss (by decide), pu13, ext_miss (by decide), pu12, ext_miss (by decide), pu11, ext_miss (by decide), pu10, ext_miss (by decide), pu9, ext_miss (by decide), pu8, ext_miss (by decide)]; apply hit7 <;> assumption) (show ∀ l : List (List UInt8), l.length < 4611686018427387904 ∧ l.flatten.length < 4611686018427387904 → pu31 16 [sl sC .no l] = some (.val (str l.flatten)) from by intros; rw [pu31, ext_miss (by decide), pu30, ext_miss (by decide), pu29, ext_miss (by decide), pu28, ext_miss (by decide), pu27, ext_miss (by decide), pu26, ext_miss (by decide), pu25, ext_miss (by decide), pu24, ext_miss (by decide), pu23, ext_miss (by decide), pu22, ext_miss (by decide), pu21, ext_miss (by decide), pu20, ext_miss (by decide)]; apply hit19 <;> assumption) (show ∀ (s : S8) (blk : List UInt8) (n : Nat), blk.length = 64 → n < 576460752303423488 → pu31 17 [.agg (cl wC s.l ++ (cl bC blk ++ [.val (nU n)]))] = some (.agg (cl bC (sumF ⟨s, blk, n⟩))) from by intros; rw [pu31, ext_miss (by decide), pu30, ext_miss (by decide), pu29, ext_miss (by decide), pu28, ext_miss (by decide), pu27, ext_miss (by decide), pu26, ext_miss (by decide), pu25, ext_miss (by decide), pu24, ext_miss (by decide), pu23, ext_miss (by decide), pu22, ext_miss (by decide), pu21, ext_miss (by decide), pu20, ext_miss (by decide), pu19, ext_miss (by decide), pu18, ext_miss (by decide), pu17, ext_miss (by decide), pu16, ext_miss (by decide), pu15, ext_miss (by decide), pu14, ext_miss (by decide), pu13, ext_miss (by decide), pu12, ext_miss (by decide), pu11, ext_miss (by decide), pu10, ext_miss (by decide), pu9, ext_miss (by decide)]; apply hit8 <;> assumption) (ps) (o) (at8)

theorem law5 {gl : Nat → C} (hgn : ∀ g, noRef 0 (gl g) = true) (hg0 : gl 0 = .kp (cl wC kc)) (hg1 : gl 1 = .kp (cl wC kc)) (key : List UInt8) (t : List UInt8)  : FC Tryd.prog gl 5 [.val (str key), .val (str t)] [] (.val (.bool true)) [] := fc5 (ok31 hgn hg0 hg1 0) (show pu31 10 [] = some (.val (.bool true)) from by intros; apply hit31 <;> assumption) (show ∀ key t : List UInt8, key.length < 1099511627776 → t.length < 1099511627776 → pu31 18 [.val (str key), .val (str t)] = some (.val (str (hmac key t))) from by intros; rw [pu31, ext_miss (by decide), pu30, ext_miss (by decide), pu29, ext_miss (by decide), pu28, ext_miss (by decide), pu27, ext_miss (by decide), pu26, ext_miss (by decide), pu25, ext_miss (by decide), pu24, ext_miss (by decide), pu23, ext_miss (by decide), pu22, ext_miss (by decide), pu21, ext_miss (by decide), pu20, ext_miss (by decide), pu19, ext_miss (by decide), pu18, ext_miss (by decide), pu17, ext_miss (by decide), pu16, ext_miss (by decide), pu15, ext_miss (by decide), pu14, ext_miss (by decide), pu13, ext_miss (by decide), pu12, ext_miss (by decide)]; apply hit11 <;> assumption) (show ∀ key t : List UInt8, key.length < 1099511627776 → t.length < 1099511627776 → pu31 19 [.val (str key), .val (str t)] = some (.val (str (hmac key t))) from by intros; rw [pu31, ext_miss (by decide), pu30, ext_miss (by decide), pu29, ext_miss (by decide), pu28, ext_miss (by decide)]; apply hit27 <;> assumption) (key) (t)

theorem law7 {gl : Nat → C} (hgn : ∀ g, noRef 0 (gl g) = true) (hg0 : gl 0 = .kp (cl wC kc)) (hg1 : gl 1 = .kp (cl wC kc)) (tag : Int) (parts : List (List UInt8))  : FC Tryd.prog gl 7 [.val (.int .i64 tag), sl sC .no parts] [] (.val (.bool true)) [] := fc7 (ok31 hgn hg0 hg1 0) (show pu31 10 [] = some (.val (.bool true)) from by intros; apply hit31 <;> assumption) (show ∀ l : List (List UInt8), pu31 13 [sl sC .no l] = some (.val (.bool (few l))) from by intros; rw [pu31, ext_miss (by decide), pu30, ext_miss (by decide), pu29, ext_miss (by decide), pu28, ext_miss (by decide), pu27, ext_miss (by decide), pu26, ext_miss (by decide), pu25, ext_miss (by decide), pu24, ext_miss (by decide), pu23, ext_miss (by decide), pu22, ext_miss (by decide), pu21, ext_miss (by decide), pu20, ext_miss (by decide), pu19, ext_miss (by decide)]; apply hit18 <;> assumption) (show ∀ (tag : Int) (parts : List (List UInt8)), (inp tag parts).length < 1099511627776 → pu31 21 [.val (.int .i64 tag), sl sC .no parts] = some (.agg (cl bC ((sha (inp tag parts)).take 16))) from by intros; rw [pu31, ext_miss (by decide), pu30, ext_miss (by decide), pu29, ext_miss (by decide), pu28, ext_miss (by decide), pu27, ext_miss (by decide), pu26, ext_miss (by decide), pu25, ext_miss (by decide), pu24, ext_miss (by decide), pu23, ext_miss (by decide), pu22, ext_miss (by decide), pu21, ext_miss (by decide), pu20, ext_miss (by decide), pu19, ext_miss (by decide), pu18, ext_miss (by decide), pu17, ext_miss (by decide), pu16, ext_miss (by decide), pu15, ext_miss (by decide)]; apply hit14 <;> assumption) (show ∀ (tag : Int) (parts : List (List UInt8)), (inp tag parts).length < 1099511627776 → pu31 22 [.val (.int .i64 tag), sl sC .no parts] = some (.agg (cl bC ((sha (inp tag parts)).take 16))) from by intros; rw [pu31, ext_miss (by decide)]; apply hit30 <;> assumption) (tag) (parts)

end Go.Sx

namespace Go.Sx.TB
open Go.RowKit Go.Proofs


def pu0 : Nat → List C → Option C := fun _ _ => none
theorem ok0 {gl : Nat → C} (hgn : ∀ g, noRef 0 (gl g) = true) (hg1 : gl 1 = .kp (cl wC kc)) (M : Nat) : CxOK (cxP gl M pu0) := CxOK.zero hgn
theorem hno0 : ∀ (g : Nat) (xs : List C), refy xs = true → pu0 g xs = none := hno_zero

abbrev D1 := {x : (BitVec 32) × Int // True}
def enc1 (x : D1) : List C := [.val (w32 (x.1.1)), .val (.int .i64 (x.1.2))]
def out1 (x : D1) : C := .val (w32 (rotl (x.1.1) (((x.1.2) % 18446744073709551616).toNat % 32)))
noncomputable def pu1 : Nat → List C → Option C := Sx.ext pu0 40 (tabOf enc1 out1)
theorem nr1 (x : D1) : noRefs 0 (enc1 x) = true := by
  simp only [enc1, noRef_val, noRef_agg, noRef_tup, noRef_kp, noRef_sl, noRefs_cl, noRefs_cons, noRefs_nil, noRefs_app, Bool.and_self, Bool.and_true]
theorem ij1 (x y : D1) (h : enc1 x = enc1 y) : out1 x = out1 y := by
  simp only [enc1, List.cons.injEq, C.val.injEq, C.agg.injEq, C.kp.injEq, str_inj, nI_inj, nU_inj, w8_inj, w32_inj, cl_inj, sl_inj, Value.int.injEq, Value.bool.injEq, true_and, and_true] at h; simp only [out1, h]
theorem ok1 {gl : Nat → C} (hgn : ∀ g, noRef 0 (gl g) = true) (hg1 : gl 1 = .kp (cl wC kc)) (M : Nat) : CxOK (cxP gl M pu1) := CxOK.ext2 (N := 0) (ok0 hgn hg1 0) nr1 fun x => fc40 (ok0 hgn hg1 0)  ((x.1.1)) ((x.1.2))
theorem hno1 : ∀ (g : Nat) (xs : List C), refy xs = true → pu1 g xs = none := hno_ext hno0 nr1
theorem hit1 (x : BitVec 32) (k : Int)  : pu1 40 [.val (w32 x), .val (.int .i64 k)] = some (.val (w32 (rotl x ((k % 18446744073709551616).toNat % 32)))) :=
  (ext_hit _).trans (tabOf_enc ij1 ⟨(x, k), trivial⟩)

abbrev D2 := {x : (BitVec 32) × Nat × Nat × Nat // (0 < (x.2.1) ∧ (x.2.1) < 32) ∧ (0 < (x.2.2.1) ∧ (x.2.2.1) < 32) ∧ (0 < (x.2.2.2) ∧ (x.2.2.2) < 32)}
def enc2 (x : D2) : List C := [.val (w32 (x.1.1)), .val (nI (x.1.2.1)), .val (nI (x.1.2.2.1)), .val (nI (x.1.2.2.2))]
def out2 (x : D2) : C := .val (w32 (rr (x.1.1) (x.1.2.1) ^^^ rr (x.1.1) (x.1.2.2.1) ^^^ rr (x.1.1) (x.1.2.2.2)))
noncomputable def pu2 : Nat → List C → Option C := Sx.ext pu1 37 (tabOf enc2 out2)
theorem nr2 (x : D2) : noRefs 0 (enc2 x) = true := by
  simp only [enc2, noRef_val, noRef_agg, noRef_tup, noRef_kp, noRef_sl, noRefs_cl, noRefs_cons, noRefs_nil, noRefs_app, Bool.and_self, Bool.and_true]
theorem ij2 (x y : D2) (h : enc2 x = enc2 y) : out2 x = out2 y := by
  simp only [enc2, List.cons.injEq, C.val.injEq, C.agg.injEq, C.kp.injEq, str_inj, nI_inj, nU_inj, w8_inj, w32_inj, cl_inj, sl_inj, Value.int.injEq, Value.bool.injEq, true_and, and_true] at h; simp only [out2, h]
theorem ok2 {gl : Nat → C} (hgn : ∀ g, noRef 0 (gl g) = true) (hg1 : gl 1 = .kp (cl wC kc)) (M : Nat) : CxOK (cxP gl M pu2) := CxOK.ext2 (N := 0) (ok1 hgn hg1 0) nr2 fun x => fc37 (ok1 hgn hg1 0) (show ∀ x k, pu1 40 [.val (w32 x), .val (.int .i64 k)] = some (.val (w32 (rotl x ((k % 18446744073709551616).toNat % 32)))) from by intros; apply hit1 <;> assumption) ((x.1.1)) ((x.1.2.1)) ((x.1.2.2.1)) ((x.1.2.2.2)) x.2.1 x.2.2.1 x.2.2.2
theorem hno2 : ∀ (g : Nat) (xs : List C), refy xs = true → pu2 g xs = none := hno_ext hno1 nr2
theorem hit2 (x : BitVec 32) (i : Nat) (j : Nat) (k : Nat) (hc0 : 0 < i ∧ i < 32) (hc1 : 0 < j ∧ j < 32) (hc2 : 0 < k ∧ k < 32) : pu2 37 [.val (w32 x), .val (nI i), .val (nI j), .val (nI k)] = some (.val (w32 (rr x i ^^^ rr x j ^^^ rr x k))) :=
  (ext_hit _).trans (tabOf_enc ij2 ⟨(x, i, j, k), ⟨hc0, hc1, hc2⟩⟩)

abbrev D3 := {x : (List UInt8) // ((x).length = 64)}
def enc3 (x : D3) : List C := [sl bC .no (x.1)]
def out3 (x : D3) : C := .agg (cl wC (sched (x.1) 64))
noncomputable def pu3 : Nat → List C → Option C := Sx.ext pu2 36 (tabOf enc3 out3)
theorem nr3 (x : D3) : noRefs 0 (enc3 x) = true := by
  simp only [enc3, noRef_val, noRef_agg, noRef_tup, noRef_kp, noRef_sl, noRefs_cl, noRefs_cons, noRefs_nil, noRefs_app, Bool.and_self, Bool.and_true]
theorem ij3 (x y : D3) (h : enc3 x = enc3 y) : out3 x = out3 y := by
  simp only [enc3, List.cons.injEq, C.val.injEq, C.agg.injEq, C.kp.injEq, str_inj, nI_inj, nU_inj, w8_inj, w32_inj, cl_inj, sl_inj, Value.int.injEq, Value.bool.injEq, true_and, and_true] at h; simp only [out3, h]
theorem ok3 {gl : Nat → C} (hgn : ∀ g, noRef 0 (gl g) = true) (hg1 : gl 1 = .kp (cl wC kc)) (M : Nat) : CxOK (cxP gl M pu3) := CxOK.ext2 (N := 0) (ok2 hgn hg1 0) nr3 fun x => fc36 (ok2 hgn hg1 0) (show ∀ x k, pu2 40 [.val (w32 x), .val (.int .i64 k)] = some (.val (w32 (rotl x ((k % 18446744073709551616).toNat % 32)))) from by intros; rw [pu2, ext_miss (by decide)]; apply hit1 <;> assumption) ((x.1)) x.2
theorem hno3 : ∀ (g : Nat) (xs : List C), refy xs = true → pu3 g xs = none := hno_ext hno2 nr3
theorem hit3 (b : List UInt8) (hc0 : b.length = 64) : pu3 36 [sl bC .no b] = some (.agg (cl wC (sched b 64))) :=
  (ext_hit _).trans (tabOf_enc ij3 ⟨(b), hc0⟩)

abbrev D4 := {x : S8 × (List UInt8) // ((x.2).length = 64)}
def enc4 (x : D4) : List C := [.agg (cl wC (x.1.1).l), sl bC .no (x.1.2)]
def out4 (x : D4) : C := .agg (cl wC (comp (x.1.1) (x.1.2)).l)
noncomputable def pu4 : Nat → List C → Option C := Sx.ext pu3 30 (tabOf enc4 out4)
theorem nr4 (x : D4) : noRefs 0 (enc4 x) = true := by
  simp only [enc4, noRef_val, noRef_agg, noRef_tup, noRef_kp, noRef_sl, noRefs_cl, noRefs_cons, noRefs_nil, noRefs_app, Bool.and_self, Bool.and_true]
theorem ij4 (x y : D4) (h : enc4 x = enc4 y) : out4 x = out4 y := by
  simp only [enc4, List.cons.injEq, C.agg.injEq, cl_inj, sl_inj, S8_inj, and_true] at h; simp only [out4, h]
theorem ok4 {gl : Nat → C} (hgn : ∀ g, noRef 0 (gl g) = true) (hg1 : gl 1 = .kp (cl wC kc)) (M : Nat) : CxOK (cxP gl M pu4) := CxOK.ext2 (N := 0) (ok3 hgn hg1 0) nr4 fun x => fc30 (ok3 hgn hg1 0) hg1 (show ∀ x i j k, 0 < i ∧ i < 32 → 0 < j ∧ j < 32 → 0 < k ∧ k < 32 → pu3 37 [.val (w32 x), .val (nI i), .val (nI j), .val (nI k)] = some (.val (w32 (rr x i ^^^ rr x j ^^^ rr x k))) from by intros; rw [pu3, ext_miss (by decide)]; apply hit2 <;> assumption) (show ∀ b : List UInt8, b.length = 64 → pu3 36 [sl bC .no b] = some (.agg (cl wC (sched b 64))) from by intros; apply hit3 <;> assumption) ((x.1.1)) ((x.1.2)) x.2
theorem hno4 : ∀ (g : Nat) (xs : List C), refy xs = true → pu4 g xs = none := hno_ext hno3 nr4
theorem hit4 (s : S8) (b : List UInt8) (hc0 : b.length = 64) : pu4 30 [.agg (cl wC s.l), sl bC .no b] = some (.agg (cl wC (comp s b).l)) :=
  (ext_hit _).trans (tabOf_enc ij4 ⟨(s, b), hc0⟩)

abbrev D5 := {x : Unit // True}
def enc5 (x : D5) : List C := ([] : List C)
def out5 (x : D5) : C := .agg F0.cells
noncomputable def pu5 : Nat → List C → Option C := Sx.ext pu4 14 (tabOf enc5 out5)
theorem nr5 (x : D5) : noRefs 0 (enc5 x) = true := by
  simp only [enc5, noRef_val, noRef_agg, noRef_tup, noRef_kp, noRef_sl, noRefs_cl, noRefs_cons, noRefs_nil, noRefs_app, Bool.and_self, Bool.and_true]
theorem ij5 (x y : D5) (h : enc5 x = enc5 y) : out5 x = out5 y := by
  rfl
theorem ok5 {gl : Nat → C} (hgn : ∀ g, noRef 0 (gl g) = true) (hg1 : gl 1 = .kp (cl wC kc)) (M : Nat) : CxOK (cxP gl M pu5) := CxOK.ext2 (N := 0) (ok4 hgn hg1 0) nr5 fun x => fc14 (ok4 hgn hg1 0)  
theorem hno5 : ∀ (g : Nat) (xs : List C), refy xs = true → pu5 g xs = none := hno_ext hno4 nr5
theorem hit5   : pu5 14 ([] : List C) = some (.agg F0.cells) :=
  (ext_hit _).trans (tabOf_enc ij5 ⟨(), trivial⟩)

abbrev D6 := {x : S8 × (List UInt8) × Nat × (List UInt8) // ((x.2.1).length = 64) ∧ ((x.2.2.1) + (x.2.2.2).length < 1152921504606846976)}
def enc6 (x : D6) : List C := [.agg (cl wC (x.1.1).l ++ (cl bC (x.1.2.1) ++ [.val (nU (x.1.2.2.1))])), .val (str (x.1.2.2.2))]
def out6 (x : D6) : C := .agg (feed ⟨(x.1.1), (x.1.2.1), (x.1.2.2.1)⟩ (x.1.2.2.2)).cells
noncomputable def pu6 : Nat → List C → Option C := Sx.ext pu5 15 (tabOf enc6 out6)
theorem nr6 (x : D6) : noRefs 0 (enc6 x) = true := by
  simp only [enc6, noRef_val, noRef_agg, noRef_tup, noRef_kp, noRef_sl, noRefs_cl, noRefs_cons, noRefs_nil, noRefs_app, Bool.and_self, Bool.and_true]
theorem ij6 (x y : D6) (h : enc6 x = enc6 y) : out6 x = out6 y := by
  exact feed_out x.1.1 y.1.1 x.1.2.1 y.1.2.1 x.1.2.2.1 y.1.2.2.1 x.1.2.2.2 y.1.2.2.2 x.2.1 y.2.1 h
theorem ok6 {gl : Nat → C} (hgn : ∀ g, noRef 0 (gl g) = true) (hg1 : gl 1 = .kp (cl wC kc)) (M : Nat) : CxOK (cxP gl M pu6) := CxOK.ext2 (N := 0) (ok5 hgn hg1 0) nr6 fun x => fc15 (ok5 hgn hg1 0) (show ∀ (s : S8) (b : List UInt8), b.length = 64 → pu5 30 [.agg (cl wC s.l), sl bC .no b] = some (.agg (cl wC (comp s b).l)) from by intros; rw [pu5, ext_miss (by decide)]; apply hit4 <;> assumption) hno5 (⟨(x.1.1), (x.1.2.1), (x.1.2.2.1)⟩) ((x.1.2.2.2)) x.2.1 x.2.2
theorem hno6 : ∀ (g : Nat) (xs : List C), refy xs = true → pu6 g xs = none := hno_ext hno5 nr6
theorem hit6 (s : S8) (blk : List UInt8) (n : Nat) (t : List UInt8) (hc0 : blk.length = 64) (hc1 : n + t.length < 1152921504606846976) : pu6 15 [.agg (cl wC s.l ++ (cl bC blk ++ [.val (nU n)])), .val (str t)] = some (.agg (feed ⟨s, blk, n⟩ t).cells) :=
  (ext_hit _).trans (tabOf_enc ij6 ⟨(s, blk, n, t), ⟨hc0, hc1⟩⟩)

abbrev D7 := {x : S8 × (List UInt8) × Nat // ((x.2.1).length = 64) ∧ ((x.2.2) < 576460752303423488)}
def enc7 (x : D7) : List C := [.agg (cl wC (x.1.1).l ++ (cl bC (x.1.2.1) ++ [.val (nU (x.1.2.2))]))]
def out7 (x : D7) : C := .agg (cl bC (sumF ⟨(x.1.1), (x.1.2.1), (x.1.2.2)⟩))
noncomputable def pu7 : Nat → List C → Option C := Sx.ext pu6 17 (tabOf enc7 out7)
theorem nr7 (x : D7) : noRefs 0 (enc7 x) = true := by
  simp only [enc7, noRef_val, noRef_agg, noRef_tup, noRef_kp, noRef_sl, noRefs_cl, noRefs_cons, noRefs_nil, noRefs_app, Bool.and_self, Bool.and_true]
theorem ij7 (x y : D7) (h : enc7 x = enc7 y) : out7 x = out7 y := by
  exact sum_out x.1.1 y.1.1 x.1.2.1 y.1.2.1 x.1.2.2 y.1.2.2 x.2.1 y.2.1 h
theorem ok7 {gl : Nat → C} (hgn : ∀ g, noRef 0 (gl g) = true) (hg1 : gl 1 = .kp (cl wC kc)) (M : Nat) : CxOK (cxP gl M pu7) := CxOK.ext2 (N := 0) (ok6 hgn hg1 0) nr7 fun x => fc17 (ok6 hgn hg1 0) (show ∀ (s : S8) (blk : List UInt8) (n : Nat) (t : List UInt8), blk.length = 64 → n + t.length < 1152921504606846976 → pu6 15 [.agg (cl wC s.l ++ (cl bC blk ++ [.val (nU n)])), .val (str t)] = some (.agg (feed ⟨s, blk, n⟩ t).cells) from by intros; apply hit6 <;> assumption) (⟨(x.1.1), (x.1.2.1), (x.1.2.2)⟩) x.2.1 x.2.2
theorem hno7 : ∀ (g : Nat) (xs : List C), refy xs = true → pu7 g xs = none := hno_ext hno6 nr7
theorem hit7 (s : S8) (blk : List UInt8) (n : Nat) (hc0 : blk.length = 64) (hc1 : n < 576460752303423488) : pu7 17 [.agg (cl wC s.l ++ (cl bC blk ++ [.val (nU n)]))] = some (.agg (cl bC (sumF ⟨s, blk, n⟩))) :=
  (ext_hit _).trans (tabOf_enc ij7 ⟨(s, blk, n), ⟨hc0, hc1⟩⟩)

abbrev D8 := {x : (List UInt8) // ((x).length < 140737488355328)}
def enc8 (x : D8) : List C := [sl bC .no (x.1)]
def out8 (x : D8) : C := .agg (cl bC (sha (x.1)))
noncomputable def pu8 : Nat → List C → Option C := Sx.ext pu7 11 (tabOf enc8 out8)
theorem nr8 (x : D8) : noRefs 0 (enc8 x) = true := by
  simp only [enc8, noRef_val, noRef_agg, noRef_tup, noRef_kp, noRef_sl, noRefs_cl, noRefs_cons, noRefs_nil, noRefs_app, Bool.and_self, Bool.and_true]
theorem ij8 (x y : D8) (h : enc8 x = enc8 y) : out8 x = out8 y := by
  simp only [enc8, List.cons.injEq, C.val.injEq, C.agg.injEq, C.kp.injEq, str_inj, nI_inj, nU_inj, w8_inj, w32_inj, cl_inj, sl_inj, Value.int.injEq, Value.bool.injEq, true_and, and_true] at h; simp only [out8, h]
theorem ok8 {gl : Nat → C} (hgn : ∀ g, noRef 0 (gl g) = true) (hg1 : gl 1 = .kp (cl wC kc)) (M : Nat) : CxOK (cxP gl M pu8) := CxOK.ext2 (N := 0) (ok7 hgn hg1 0) nr8 fun x => fc11 (ok7 hgn hg1 0) (show pu7 14 [] = some (.agg F0.cells) from by intros; rw [pu7, ext_miss (by decide), pu6, ext_miss (by decide)]; apply hit5 <;> assumption) (show ∀ (s : S8) (blk : List UInt8) (n : Nat) (t : List UInt8), blk.length = 64 → n + t.length < 1152921504606846976 → pu7 15 [.agg (cl wC s.l ++ (cl bC blk ++ [.val (nU n)])), .val (str t)] = some (.agg (feed ⟨s, blk, n⟩ t).cells) from by intros; rw [pu7, ext_miss (by decide)]; apply hit6 <;> assumption) (show ∀ (s : S8) (blk : List UInt8) (n : Nat), blk.length = 64 → n < 576460752303423488 → pu7 17 [.agg (cl wC s.l ++ (cl bC blk ++ [.val (nU n)]))] = some (.agg (cl bC (sumF ⟨s, blk, n⟩))) from by intros; apply hit7 <;> assumption) ((x.1)) x.2
theorem hno8 : ∀ (g : Nat) (xs : List C), refy xs = true → pu8 g xs = none := hno_ext hno7 nr8
theorem hit8 (b : List UInt8) (hc0 : b.length < 140737488355328) : pu8 11 [sl bC .no b] = some (.agg (cl bC (sha b))) :=
  (ext_hit _).trans (tabOf_enc ij8 ⟨(b), hc0⟩)

abbrev D9 := {x : UInt8 × (List UInt8) // ((x.2).length < 140737488355328)}
def enc9 (x : D9) : List C := [.val (w8 (x.1.1)), .kp [.val (str (x.1.2))]]
def out9 (x : D9) : C := .val (str (padk (x.1.2) (x.1.1)))
noncomputable def pu9 : Nat → List C → Option C := Sx.ext pu8 31 (tabOf enc9 out9)
theorem nr9 (x : D9) : noRefs 0 (enc9 x) = true := by
  simp only [enc9, noRef_val, noRef_agg, noRef_tup, noRef_kp, noRef_sl, noRefs_cl, noRefs_cons, noRefs_nil, noRefs_app, Bool.and_self, Bool.and_true]
theorem ij9 (x y : D9) (h : enc9 x = enc9 y) : out9 x = out9 y := by
  simp only [enc9, List.cons.injEq, C.val.injEq, C.agg.injEq, C.kp.injEq, str_inj, nI_inj, nU_inj, w8_inj, w32_inj, cl_inj, sl_inj, Value.int.injEq, Value.bool.injEq, true_and, and_true] at h; simp only [out9, h]
theorem ok9 {gl : Nat → C} (hgn : ∀ g, noRef 0 (gl g) = true) (hg1 : gl 1 = .kp (cl wC kc)) (M : Nat) : CxOK (cxP gl M pu9) := CxOK.ext2 (N := 0) (ok8 hgn hg1 0) nr9 fun x => fc31 (ok8 hgn hg1 0)  ((x.1.1)) ((x.1.2)) x.2
theorem hno9 : ∀ (g : Nat) (xs : List C), refy xs = true → pu9 g xs = none := hno_ext hno8 nr9
theorem hit9 (x : UInt8) (key : List UInt8) (hc0 : key.length < 140737488355328) : pu9 31 [.val (w8 x), .kp [.val (str key)]] = some (.val (str (padk key x))) :=
  (ext_hit _).trans (tabOf_enc ij9 ⟨(x, key), hc0⟩)

abbrev D10 := {x : (List UInt8) × (List UInt8) // ((x.1).length < 1099511627776) ∧ ((x.2).length < 1099511627776)}
def enc10 (x : D10) : List C := [.val (str (x.1.1)), .val (str (x.1.2))]
def out10 (x : D10) : C := .val (str (hmac (x.1.1) (x.1.2)))
noncomputable def pu10 : Nat → List C → Option C := Sx.ext pu9 18 (tabOf enc10 out10)
theorem nr10 (x : D10) : noRefs 0 (enc10 x) = true := by
  simp only [enc10, noRef_val, noRef_agg, noRef_tup, noRef_kp, noRef_sl, noRefs_cl, noRefs_cons, noRefs_nil, noRefs_app, Bool.and_self, Bool.and_true]
theorem ij10 (x y : D10) (h : enc10 x = enc10 y) : out10 x = out10 y := by
  simp only [enc10, List.cons.injEq, C.val.injEq, C.agg.injEq, C.kp.injEq, str_inj, nI_inj, nU_inj, w8_inj, w32_inj, cl_inj, sl_inj, Value.int.injEq, Value.bool.injEq, true_and, and_true] at h; simp only [out10, h]
theorem ok10 {gl : Nat → C} (hgn : ∀ g, noRef 0 (gl g) = true) (hg1 : gl 1 = .kp (cl wC kc)) (M : Nat) : CxOK (cxP gl M pu10) := CxOK.ext2 (N := 0) (ok9 hgn hg1 0) nr10 fun x => fc18 (ok9 hgn hg1 0) (show ∀ b : List UInt8, b.length < 140737488355328 → pu9 11 [sl bC .no b] = some (.agg (cl bC (sha b))) from by intros; rw [pu9, ext_miss (by decide)]; apply hit8 <;> assumption) (show pu9 14 [] = some (.agg F0.cells) from by intros; rw [pu9, ext_miss (by decide), pu8, ext_miss (by decide), pu7, ext_miss (by decide), pu6, ext_miss (by decide)]; apply hit5 <;> assumption) (show ∀ (s : S8) (blk : List UInt8) (n : Nat) (t : List UInt8), blk.length = 64 → n + t.length < 1152921504606846976 → pu9 15 [.agg (cl wC s.l ++ (cl bC blk ++ [.val (nU n)])), .val (str t)] = some (.agg (feed ⟨s, blk, n⟩ t).cells) from by intros; rw [pu9, ext_miss (by decide), pu8, ext_miss (by decide), pu7, ext_miss (by decide)]; apply hit6 <;> assumption) (show ∀ (s : S8) (blk : List UInt8) (n : Nat), blk.length = 64 → n < 576460752303423488 → pu9 17 [.agg (cl wC s.l ++ (cl bC blk ++ [.val (nU n)]))] = some (.agg (cl bC (sumF ⟨s, blk, n⟩))) from by intros; rw [pu9, ext_miss (by decide), pu8, ext_miss (by decide)]; apply hit7 <;> assumption) (show ∀ (x : UInt8) (key : List UInt8), key.length < 140737488355328 → pu9 31 [.val (w8 x), .kp [.val (str key)]] = some (.val (str (padk key x))) from by intros; apply hit9 <;> assumption) hno9 ((x.1.1)) ((x.1.2)) x.2.1 x.2.2
theorem hno10 : ∀ (g : Nat) (xs : List C), refy xs = true → pu10 g xs = none := hno_ext hno9 nr10
theorem hit10 (key : List UInt8) (t : List UInt8) (hc0 : key.length < 1099511627776) (hc1 : t.length < 1099511627776) : pu10 18 [.val (str key), .val (str t)] = some (.val (str (hmac key t))) :=
  (ext_hit _).trans (tabOf_enc ij10 ⟨(key, t), ⟨hc0, hc1⟩⟩)

abbrev D11 := {x : Nat // ((x) < 9223372036854775808)}
def enc11 (x : D11) : List C := [.val (nI (x.1))]
def out11 (x : D11) : C := sl bC (.own 1) (wI (x.1) 0)
noncomputable def pu11 : Nat → List C → Option C := Sx.ext pu10 38 (tabOf enc11 out11)
theorem nr11 (x : D11) : noRefs 0 (enc11 x) = true := by
  simp only [enc11, noRef_val, noRef_agg, noRef_tup, noRef_kp, noRef_sl, noRefs_cl, noRefs_cons, noRefs_nil, noRefs_app, Bool.and_self, Bool.and_true]
theorem ij11 (x y : D11) (h : enc11 x = enc11 y) : out11 x = out11 y := by
  simp only [enc11, List.cons.injEq, C.val.injEq, C.agg.injEq, C.kp.injEq, str_inj, nI_inj, nU_inj, w8_inj, w32_inj, cl_inj, sl_inj, Value.int.injEq, Value.bool.injEq, true_and, and_true] at h; simp only [out11, h]
theorem ok11 {gl : Nat → C} (hgn : ∀ g, noRef 0 (gl g) = true) (hg1 : gl 1 = .kp (cl wC kc)) (M : Nat) : CxOK (cxP gl M pu11) := CxOK.ext2 (N := 0) (ok10 hgn hg1 0) nr11 fun x => fc38p (ok10 hgn hg1 0)  ((x.1)) x.2
theorem hno11 : ∀ (g : Nat) (xs : List C), refy xs = true → pu11 g xs = none := hno_ext hno10 nr11
theorem hit11 (m : Nat) (hc0 : m < 9223372036854775808) : pu11 38 [.val (nI m)] = some (sl bC (.own 1) (wI m 0)) :=
  (ext_hit _).trans (tabOf_enc ij11 ⟨(m), hc0⟩)

abbrev D12 := {x : (List UInt8) // ((x).length < 70368744177664)}
def enc12 (x : D12) : List C := [.val (str (x.1))]
def out12 (x : D12) : C := sl bC (.own 1) (wb (x.1))
noncomputable def pu12 : Nat → List C → Option C := Sx.ext pu11 33 (tabOf enc12 out12)
theorem nr12 (x : D12) : noRefs 0 (enc12 x) = true := by
  simp only [enc12, noRef_val, noRef_agg, noRef_tup, noRef_kp, noRef_sl, noRefs_cl, noRefs_cons, noRefs_nil, noRefs_app, Bool.and_self, Bool.and_true]
theorem ij12 (x y : D12) (h : enc12 x = enc12 y) : out12 x = out12 y := by
  simp only [enc12, List.cons.injEq, C.val.injEq, C.agg.injEq, C.kp.injEq, str_inj, nI_inj, nU_inj, w8_inj, w32_inj, cl_inj, sl_inj, Value.int.injEq, Value.bool.injEq, true_and, and_true] at h; simp only [out12, h]
theorem ok12 {gl : Nat → C} (hgn : ∀ g, noRef 0 (gl g) = true) (hg1 : gl 1 = .kp (cl wC kc)) (M : Nat) : CxOK (cxP gl M pu12) := CxOK.ext2 (N := 0) (ok11 hgn hg1 0) nr12 fun x => fc33 (ok11 hgn hg1 0) (show ∀ m : Nat, m < 9223372036854775808 → pu11 38 [.val (nI m)] = some (sl bC (.own 1) (wI m 0)) from by intros; apply hit11 <;> assumption) ((x.1)) x.2
theorem hno12 : ∀ (g : Nat) (xs : List C), refy xs = true → pu12 g xs = none := hno_ext hno11 nr12
theorem hit12 (s : List UInt8) (hc0 : s.length < 70368744177664) : pu12 33 [.val (str s)] = some (sl bC (.own 1) (wb s)) :=
  (ext_hit _).trans (tabOf_enc ij12 ⟨(s), hc0⟩)

abbrev D13 := {x : Int × (List (List UInt8)) // ((inp (x.1) (x.2)).length < 1099511627776)}
def enc13 (x : D13) : List C := [.val (.int .i64 (x.1.1)), sl sC .no (x.1.2)]
def out13 (x : D13) : C := .agg (cl bC ((sha (inp (x.1.1) (x.1.2))).take 16))
noncomputable def pu13 : Nat → List C → Option C := Sx.ext pu12 21 (tabOf enc13 out13)
theorem nr13 (x : D13) : noRefs 0 (enc13 x) = true := by
  simp only [enc13, noRef_val, noRef_agg, noRef_tup, noRef_kp, noRef_sl, noRefs_cl, noRefs_cons, noRefs_nil, noRefs_app, Bool.and_self, Bool.and_true]
theorem ij13 (x y : D13) (h : enc13 x = enc13 y) : out13 x = out13 y := by
  simp only [enc13, List.cons.injEq, C.val.injEq, C.agg.injEq, C.kp.injEq, str_inj, nI_inj, nU_inj, w8_inj, w32_inj, cl_inj, sl_inj, Value.int.injEq, Value.bool.injEq, true_and, and_true] at h; simp only [out13, h]
theorem ok13 {gl : Nat → C} (hgn : ∀ g, noRef 0 (gl g) = true) (hg1 : gl 1 = .kp (cl wC kc)) (M : Nat) : CxOK (cxP gl M pu13) := CxOK.ext2 (N := 0) (ok12 hgn hg1 0) nr13 fun x => fc21 (ok12 hgn hg1 0) (show pu12 14 [] = some (.agg F0.cells) from by intros; rw [pu12, ext_miss (by decide), pu11, ext_miss (by decide), pu10, ext_miss (by decide), pu9, ext_miss (by decide), pu8, ext_miss (by decide), pu7, ext_miss (by decide), pu6, ext_miss (by decide)]; apply hit5 <;> assumption) (show ∀ (s : S8) (blk : List UInt8) (n : Nat) (t : List UInt8), blk.length = 64 → n + t.length < 1152921504606846976 → pu12 15 [.agg (cl wC s.l ++ (cl bC blk ++ [.val (nU n)])), .val (str t)] = some (.agg (feed ⟨s, blk, n⟩ t).cells) from by intros; rw [pu12, ext_miss (by decide), pu11, ext_miss (by decide), pu10, ext_miss (by decide), pu9, ext_miss (by decide), pu8, ext_miss (by decide), pu7, ext_miss (by decide)]; apply hit6 <;> assumption) (show ∀ (s : S8) (blk : List UInt8) (n : Nat), blk.length = 64 → n < 576460752303423488 → pu12 17 [.agg (cl wC s.l ++ (cl bC blk ++ [.val (nU n)]))] = some (.agg (cl bC (sumF ⟨s, blk, n⟩))) from by intros; rw [pu12, ext_miss (by decide), pu11, ext_miss (by decide), pu10, ext_miss (by decide), pu9, ext_miss (by decide), pu8, ext_miss (by decide)]; apply hit7 <;> assumption) (show ∀ s : List UInt8, s.length < 70368744177664 → pu12 33 [.val (str s)] = some (sl bC (.own 1) (wb s)) from by intros; apply hit12 <;> assumption) ((x.1.1)) ((x.1.2)) x.2
theorem hno13 : ∀ (g : Nat) (xs : List C), refy xs = true → pu13 g xs = none := hno_ext hno12 nr13
theorem hit13 (tag : Int) (parts : List (List UInt8)) (hc0 : (inp tag parts).length < 1099511627776) : pu13 21 [.val (.int .i64 tag), sl sC .no parts] = some (.agg (cl bC ((sha (inp tag parts)).take 16))) :=
  (ext_hit _).trans (tabOf_enc ij13 ⟨(tag, parts), hc0⟩)

abbrev D14 := {x : (List UInt8) × (List UInt8) // ((x.1).length < 1099511627776) ∧ ((x.2).length < 1099511627776)}
def enc14 (x : D14) : List C := [.val (str (x.1.1)), .val (str (x.1.2))]
def out14 (x : D14) : C := .val (.bool (decide ((x.1.1) = (x.1.2))))
noncomputable def pu14 : Nat → List C → Option C := Sx.ext pu13 24 (tabOf enc14 out14)
theorem nr14 (x : D14) : noRefs 0 (enc14 x) = true := by
  simp only [enc14, noRef_val, noRef_agg, noRef_tup, noRef_kp, noRef_sl, noRefs_cl, noRefs_cons, noRefs_nil, noRefs_app, Bool.and_self, Bool.and_true]
theorem ij14 (x y : D14) (h : enc14 x = enc14 y) : out14 x = out14 y := by
  simp only [enc14, List.cons.injEq, C.val.injEq, C.agg.injEq, C.kp.injEq, str_inj, nI_inj, nU_inj, w8_inj, w32_inj, cl_inj, sl_inj, Value.int.injEq, Value.bool.injEq, true_and, and_true] at h; simp only [out14, h]
theorem ok14 {gl : Nat → C} (hgn : ∀ g, noRef 0 (gl g) = true) (hg1 : gl 1 = .kp (cl wC kc)) (M : Nat) : CxOK (cxP gl M pu14) := CxOK.ext2 (N := 0) (ok13 hgn hg1 0) nr14 fun x => fc24 (ok13 hgn hg1 0)  ((x.1.1)) ((x.1.2)) x.2.1 x.2.2
theorem hno14 : ∀ (g : Nat) (xs : List C), refy xs = true → pu14 g xs = none := hno_ext hno13 nr14
theorem hit14 (x : List UInt8) (y : List UInt8) (hc0 : x.length < 1099511627776) (hc1 : y.length < 1099511627776) : pu14 24 [.val (str x), .val (str y)] = some (.val (.bool (decide (x = y)))) :=
  (ext_hit _).trans (tabOf_enc ij14 ⟨(x, y), ⟨hc0, hc1⟩⟩)

abbrev D15 := {x : Nat // ((x) < 9223372036854775808)}
def enc15 (x : D15) : List C := [.val (nI (x.1))]
def out15 (x : D15) : C := sl bC (.own 1) (wI (x.1) 0)
noncomputable def pu15 : Nat → List C → Option C := Sx.ext pu14 39 (tabOf enc15 out15)
theorem nr15 (x : D15) : noRefs 0 (enc15 x) = true := by
  simp only [enc15, noRef_val, noRef_agg, noRef_tup, noRef_kp, noRef_sl, noRefs_cl, noRefs_cons, noRefs_nil, noRefs_app, Bool.and_self, Bool.and_true]
theorem ij15 (x y : D15) (h : enc15 x = enc15 y) : out15 x = out15 y := by
  simp only [enc15, List.cons.injEq, C.val.injEq, C.agg.injEq, C.kp.injEq, str_inj, nI_inj, nU_inj, w8_inj, w32_inj, cl_inj, sl_inj, Value.int.injEq, Value.bool.injEq, true_and, and_true] at h; simp only [out15, h]
theorem ok15 {gl : Nat → C} (hgn : ∀ g, noRef 0 (gl g) = true) (hg1 : gl 1 = .kp (cl wC kc)) (M : Nat) : CxOK (cxP gl M pu15) := CxOK.ext2 (N := 0) (ok14 hgn hg1 0) nr15 fun x => fc39p (ok14 hgn hg1 0)  ((x.1)) x.2
theorem hno15 : ∀ (g : Nat) (xs : List C), refy xs = true → pu15 g xs = none := hno_ext hno14 nr15
theorem hit15 (m : Nat) (hc0 : m < 9223372036854775808) : pu15 39 [.val (nI m)] = some (sl bC (.own 1) (wI m 0)) :=
  (ext_hit _).trans (tabOf_enc ij15 ⟨(m), hc0⟩)

abbrev D16 := {x : (List UInt8) // ((x).length < 70368744177664)}
def enc16 (x : D16) : List C := [.val (str (x.1))]
def out16 (x : D16) : C := sl bC (.own 1) (wb (x.1))
noncomputable def pu16 : Nat → List C → Option C := Sx.ext pu15 35 (tabOf enc16 out16)
theorem nr16 (x : D16) : noRefs 0 (enc16 x) = true := by
  simp only [enc16, noRef_val, noRef_agg, noRef_tup, noRef_kp, noRef_sl, noRefs_cl, noRefs_cons, noRefs_nil, noRefs_app, Bool.and_self, Bool.and_true]
theorem ij16 (x y : D16) (h : enc16 x = enc16 y) : out16 x = out16 y := by
  simp only [enc16, List.cons.injEq, C.val.injEq, C.agg.injEq, C.kp.injEq, str_inj, nI_inj, nU_inj, w8_inj, w32_inj, cl_inj, sl_inj, Value.int.injEq, Value.bool.injEq, true_and, and_true] at h; simp only [out16, h]
theorem ok16 {gl : Nat → C} (hgn : ∀ g, noRef 0 (gl g) = true) (hg1 : gl 1 = .kp (cl wC kc)) (M : Nat) : CxOK (cxP gl M pu16) := CxOK.ext2 (N := 0) (ok15 hgn hg1 0) nr16 fun x => fc35 (ok15 hgn hg1 0) (show ∀ m : Nat, m < 9223372036854775808 → pu15 39 [.val (nI m)] = some (sl bC (.own 1) (wI m 0)) from by intros; apply hit15 <;> assumption) ((x.1)) x.2
theorem hno16 : ∀ (g : Nat) (xs : List C), refy xs = true → pu16 g xs = none := hno_ext hno15 nr16
theorem hit16 (s : List UInt8) (hc0 : s.length < 70368744177664) : pu16 35 [.val (str s)] = some (sl bC (.own 1) (wb s)) :=
  (ext_hit _).trans (tabOf_enc ij16 ⟨(s), hc0⟩)

abbrev D17 := {x : (List (List UInt8)) // True}
def enc17 (x : D17) : List C := [sl sC .no (x.1)]
def out17 (x : D17) : C := .val (.bool (few (x.1)))
noncomputable def pu17 : Nat → List C → Option C := Sx.ext pu16 13 (tabOf enc17 out17)
theorem nr17 (x : D17) : noRefs 0 (enc17 x) = true := by
  simp only [enc17, noRef_val, noRef_agg, noRef_tup, noRef_kp, noRef_sl, noRefs_cl, noRefs_cons, noRefs_nil, noRefs_app, Bool.and_self, Bool.and_true]
theorem ij17 (x y : D17) (h : enc17 x = enc17 y) : out17 x = out17 y := by
  simp only [enc17, List.cons.injEq, C.val.injEq, C.agg.injEq, C.kp.injEq, str_inj, nI_inj, nU_inj, w8_inj, w32_inj, cl_inj, sl_inj, Value.int.injEq, Value.bool.injEq, true_and, and_true] at h; simp only [out17, h]
theorem ok17 {gl : Nat → C} (hgn : ∀ g, noRef 0 (gl g) = true) (hg1 : gl 1 = .kp (cl wC kc)) (M : Nat) : CxOK (cxP gl M pu17) := CxOK.ext2 (N := 0) (ok16 hgn hg1 0) nr17 fun x => fc13 (ok16 hgn hg1 0)  ((x.1))
theorem hno17 : ∀ (g : Nat) (xs : List C), refy xs = true → pu17 g xs = none := hno_ext hno16 nr17
theorem hit17 (l : List (List UInt8))  : pu17 13 [sl sC .no l] = some (.val (.bool (few l))) :=
  (ext_hit _).trans (tabOf_enc ij17 ⟨(l), trivial⟩)

abbrev D18 := {x : (List UInt8) // ((x).length = 32)}
def enc18 (x : D18) : List C := [.agg (cl bC (x.1))]
def out18 (x : D18) : C := .val (str (x.1))
noncomputable def pu18 : Nat → List C → Option C := Sx.ext pu17 20 (tabOf enc18 out18)
theorem nr18 (x : D18) : noRefs 0 (enc18 x) = true := by
  simp only [enc18, noRef_val, noRef_agg, noRef_tup, noRef_kp, noRef_sl, noRefs_cl, noRefs_cons, noRefs_nil, noRefs_app, Bool.and_self, Bool.and_true]
theorem ij18 (x y : D18) (h : enc18 x = enc18 y) : out18 x = out18 y := by
  simp only [enc18, List.cons.injEq, C.val.injEq, C.agg.injEq, C.kp.injEq, str_inj, nI_inj, nU_inj, w8_inj, w32_inj, cl_inj, sl_inj, Value.int.injEq, Value.bool.injEq, true_and, and_true] at h; simp only [out18, h]
theorem ok18 {gl : Nat → C} (hgn : ∀ g, noRef 0 (gl g) = true) (hg1 : gl 1 = .kp (cl wC kc)) (M : Nat) : CxOK (cxP gl M pu18) := CxOK.ext2 (N := 0) (ok17 hgn hg1 0) nr18 fun x => fc20 (ok17 hgn hg1 0)  ((x.1)) x.2
theorem hno18 : ∀ (g : Nat) (xs : List C), refy xs = true → pu18 g xs = none := hno_ext hno17 nr18
theorem hit18 (h : List UInt8) (hc0 : h.length = 32) : pu18 20 [.agg (cl bC h)] = some (.val (str h)) :=
  (ext_hit _).trans (tabOf_enc ij18 ⟨(h), hc0⟩)

abbrev D19 := {x : (List UInt8) // ((x).length = 16)}
def enc19 (x : D19) : List C := [.agg (cl bC (x.1))]
def out19 (x : D19) : C := .val (str (x.1))
noncomputable def pu19 : Nat → List C → Option C := Sx.ext pu18 26 (tabOf enc19 out19)
theorem nr19 (x : D19) : noRefs 0 (enc19 x) = true := by
  simp only [enc19, noRef_val, noRef_agg, noRef_tup, noRef_kp, noRef_sl, noRefs_cl, noRefs_cons, noRefs_nil, noRefs_app, Bool.and_self, Bool.and_true]
theorem ij19 (x y : D19) (h : enc19 x = enc19 y) : out19 x = out19 y := by
  simp only [enc19, List.cons.injEq, C.val.injEq, C.agg.injEq, C.kp.injEq, str_inj, nI_inj, nU_inj, w8_inj, w32_inj, cl_inj, sl_inj, Value.int.injEq, Value.bool.injEq, true_and, and_true] at h; simp only [out19, h]
theorem ok19 {gl : Nat → C} (hgn : ∀ g, noRef 0 (gl g) = true) (hg1 : gl 1 = .kp (cl wC kc)) (M : Nat) : CxOK (cxP gl M pu19) := CxOK.ext2 (N := 0) (ok18 hgn hg1 0) nr19 fun x => fc26 (ok18 hgn hg1 0)  ((x.1)) x.2
theorem hno19 : ∀ (g : Nat) (xs : List C), refy xs = true → pu19 g xs = none := hno_ext hno18 nr19
theorem hit19 (h : List UInt8) (hc0 : h.length = 16) : pu19 26 [.agg (cl bC h)] = some (.val (str h)) :=
  (ext_hit _).trans (tabOf_enc ij19 ⟨(h), hc0⟩)

abbrev D20 := {x : (List UInt8) // ((x).length < 35184372088832)}
def enc20 (x : D20) : List C := [.val (str (x.1))]
def out20 (x : D20) : C := .val (str (hexs (x.1)))
noncomputable def pu20 : Nat → List C → Option C := Sx.ext pu19 25 (tabOf enc20 out20)
theorem nr20 (x : D20) : noRefs 0 (enc20 x) = true := by
  simp only [enc20, noRef_val, noRef_agg, noRef_tup, noRef_kp, noRef_sl, noRefs_cl, noRefs_cons, noRefs_nil, noRefs_app, Bool.and_self, Bool.and_true]
theorem ij20 (x y : D20) (h : enc20 x = enc20 y) : out20 x = out20 y := by
  simp only [enc20, List.cons.injEq, C.val.injEq, C.agg.injEq, C.kp.injEq, str_inj, nI_inj, nU_inj, w8_inj, w32_inj, cl_inj, sl_inj, Value.int.injEq, Value.bool.injEq, true_and, and_true] at h; simp only [out20, h]
theorem ok20 {gl : Nat → C} (hgn : ∀ g, noRef 0 (gl g) = true) (hg1 : gl 1 = .kp (cl wC kc)) (M : Nat) : CxOK (cxP gl M pu20) := CxOK.ext2 (N := 0) (ok19 hgn hg1 0) nr20 fun x => fc25 (ok19 hgn hg1 0)  ((x.1)) x.2
theorem hno20 : ∀ (g : Nat) (xs : List C), refy xs = true → pu20 g xs = none := hno_ext hno19 nr20
theorem hit20 (s : List UInt8) (hc0 : s.length < 35184372088832) : pu20 25 [.val (str s)] = some (.val (str (hexs s))) :=
  (ext_hit _).trans (tabOf_enc ij20 ⟨(s), hc0⟩)

abbrev D21 := {x : Int × (List (List UInt8)) // ((inp (x.1) (x.2)).length < 1099511627776)}
def enc21 (x : D21) : List C := [.val (.int .i64 (x.1.1)), sl sC .no (x.1.2)]
def out21 (x : D21) : C := sl bC (.own 1) (inp (x.1.1) (x.1.2))
noncomputable def pu21 : Nat → List C → Option C := Sx.ext pu20 23 (tabOf enc21 out21)
theorem nr21 (x : D21) : noRefs 0 (enc21 x) = true := by
  simp only [enc21, noRef_val, noRef_agg, noRef_tup, noRef_kp, noRef_sl, noRefs_cl, noRefs_cons, noRefs_nil, noRefs_app, Bool.and_self, Bool.and_true]
theorem ij21 (x y : D21) (h : enc21 x = enc21 y) : out21 x = out21 y := by
  simp only [enc21, List.cons.injEq, C.val.injEq, C.agg.injEq, C.kp.injEq, str_inj, nI_inj, nU_inj, w8_inj, w32_inj, cl_inj, sl_inj, Value.int.injEq, Value.bool.injEq, true_and, and_true] at h; simp only [out21, h]
theorem ok21 {gl : Nat → C} (hgn : ∀ g, noRef 0 (gl g) = true) (hg1 : gl 1 = .kp (cl wC kc)) (M : Nat) : CxOK (cxP gl M pu21) := CxOK.ext2 (N := 0) (ok20 hgn hg1 0) nr21 fun x => fc23 (ok20 hgn hg1 0) (show ∀ s : List UInt8, s.length < 70368744177664 → pu20 35 [.val (str s)] = some (sl bC (.own 1) (wb s)) from by intros; rw [pu20, ext_miss (by decide), pu19, ext_miss (by decide), pu18, ext_miss (by decide), pu17, ext_miss (by decide)]; apply hit16 <;> assumption) ((x.1.1)) ((x.1.2)) x.2
theorem hno21 : ∀ (g : Nat) (xs : List C), refy xs = true → pu21 g xs = none := hno_ext hno20 nr21
theorem hit21 (tag : Int) (parts : List (List UInt8)) (hc0 : (inp tag parts).length < 1099511627776) : pu21 23 [.val (.int .i64 tag), sl sC .no parts] = some (sl bC (.own 1) (inp tag parts)) :=
  (ext_hit _).trans (tabOf_enc ij21 ⟨(tag, parts), hc0⟩)

abbrev D22 := {x : Unit // True}
def enc22 (x : D22) : List C := ([] : List C)
def out22 (x : D22) : C := .val (.bool true)
noncomputable def pu22 : Nat → List C → Option C := Sx.ext pu21 10 (tabOf enc22 out22)
theorem nr22 (x : D22) : noRefs 0 (enc22 x) = true := by
  simp only [enc22, noRef_val, noRef_agg, noRef_tup, noRef_kp, noRef_sl, noRefs_cl, noRefs_cons, noRefs_nil, noRefs_app, Bool.and_self, Bool.and_true]
theorem ij22 (x y : D22) (h : enc22 x = enc22 y) : out22 x = out22 y := by
  rfl
theorem ok22 {gl : Nat → C} (hgn : ∀ g, noRef 0 (gl g) = true) (hg1 : gl 1 = .kp (cl wC kc)) (M : Nat) : CxOK (cxP gl M pu22) := CxOK.ext2 (N := 0) (ok21 hgn hg1 0) nr22 fun x => fc10 (ok21 hgn hg1 0) (show ∀ b : List UInt8, b.length < 140737488355328 → pu21 11 [sl bC .no b] = some (.agg (cl bC (sha b))) from by intros; rw [pu21, ext_miss (by decide), pu20, ext_miss (by decide), pu19, ext_miss (by decide), pu18, ext_miss (by decide), pu17, ext_miss (by decide), pu16, ext_miss (by decide), pu15, ext_miss (by decide), pu14, ext_miss (by decide), pu13, ext_miss (by decide), pu12, ext_miss (by decide), pu11, ext_miss (by decide), pu10, ext_miss (by decide), pu9, ext_miss (by decide)]; apply hit8 <;> assumption) (show pu21 14 [] = some (.agg F0.cells) from by intros; rw [pu21, ext_miss (by decide), pu20, ext_miss (by decide), pu19, ext_miss (by decide), pu18, ext_miss (by decide), pu17, ext_miss (by decide), pu16, ext_miss (by decide), pu15, ext_miss (by decide), pu14, ext_miss (by decide), pu13, ext_miss (by decide), pu12, ext_miss (by decide), pu11, ext_miss (by decide), pu10, ext_miss (by decide), pu9, ext_miss (by decide), pu8, ext_miss (by decide), pu7, ext_miss (by decide), pu6, ext_miss (by decide)]; apply hit5 <;> assumption) (show ∀ (s : S8) (blk : List UInt8) (n : Nat) (t : List UInt8), blk.length = 64 → n + t.length < 1152921504606846976 → pu21 15 [.agg (cl wC s.l ++ (cl bC blk ++ [.val (nU n)])), .val (str t)] = some (.agg (feed ⟨s, blk, n⟩ t).cells) from by intros; rw [pu21, ext_miss (by decide), pu20, ext_miss (by decide), pu19, ext_miss (by decide), pu18, ext_miss (by decide), pu17, ext_miss (by decide), pu16, ext_miss (by decide), pu15, ext_miss (by decide), pu14, ext_miss (by decide), pu13, ext_miss (by decide), pu12, ext_miss (by decide), pu11, ext_miss (by decide), pu10, ext_miss (by decide), pu9, ext_miss (by decide), pu8, ext_miss (by decide), pu7, ext_miss (by decide)]; apply hit6 <;> assumption) (show ∀ (s : S8) (blk : List UInt8) (n : Nat), blk.length = 64 → n < 576460752303423488 → pu21 17 [.agg (cl wC s.l ++ (cl bC blk ++ [.val (nU n)]))] = some (.agg (cl bC (sumF ⟨s, blk, n⟩))) from by intros; rw [pu21, ext_miss (by decide), pu20, ext_miss (by decide), pu19, ext_miss (by decide), pu18, ext_miss (by decide), pu17, ext_miss (by decide), pu16, ext_miss (by decide), pu15, ext_miss (by decide), pu14, ext_miss (by decide), pu13, ext_miss (by decide), pu12, ext_miss (by decide), pu11, ext_miss (by decide), pu10, ext_miss (by decide), pu9, ext_miss (by decide), pu8, ext_miss (by decide)]; apply hit7 <;> assumption) (show ∀ key t : List UInt8, key.length < 1099511627776 → t.length < 1099511627776 → pu21 18 [.val (str key), .val (str t)] = some (.val (str (hmac key t))) from by intros; rw [pu21, ext_miss (by decide), pu20, ext_miss (by decide), pu19, ext_miss (by decide), pu18, ext_miss (by decide), pu17, ext_miss (by decide), pu16, ext_miss (by decide), pu15, ext_miss (by decide), pu14, ext_miss (by decide), pu13, ext_miss (by decide), pu12, ext_miss (by decide), pu11, ext_miss (by decide)]; apply hit10 <;> assumption) (show ∀ h : List UInt8, h.length = 32 → pu21 20 [.agg (cl bC h)] = some (.val (str h)) from by intros; rw [pu21, ext_miss (by decide), pu20, ext_miss (by decide), pu19, ext_miss (by decide)]; apply hit18 <;> assumption) (show ∀ (tag : Int) (parts : List (List UInt8)), (inp tag parts).length < 1099511627776 → pu21 21 [.val (.int .i64 tag), sl sC .no parts] = some (.agg (cl bC ((sha (inp tag parts)).take 16))) from by intros; rw [pu21, ext_miss (by decide), pu20, ext_miss (by decide), pu19, ext_miss (by decide), pu18, ext_miss (by decide), pu17, ext_miss (by decide), pu16, ext_miss (by decide), pu15, ext_miss (by decide), pu14, ext_miss (by decide)]; apply hit13 <;> assumption) (show ∀ x y : List UInt8, x.length < 1099511627776 → y.length < 1099511627776 → pu21 24 [.val (str x), .val (str y)] = some (.val (.bool (decide (x = y)))) from by intros; rw [pu21, ext_miss (by decide), pu20, ext_miss (by decide), pu19, ext_miss (by decide), pu18, ext_miss (by decide), pu17, ext_miss (by decide), pu16, ext_miss (by decide), pu15, ext_miss (by decide)]; apply hit14 <;> assumption) (show ∀ s : List UInt8, s.length < 35184372088832 → pu21 25 [.val (str s)] = some (.val (str (hexs s))) from by intros; rw [pu21, ext_miss (by decide)]; apply hit20 <;> assumption) (show ∀ h : List UInt8, h.length = 16 → pu21 26 [.agg (cl bC h)] = some (.val (str h)) from by intros; rw [pu21, ext_miss (by decide), pu20, ext_miss (by decide)]; apply hit19 <;> assumption) 
theorem hno22 : ∀ (g : Nat) (xs : List C), refy xs = true → pu22 g xs = none := hno_ext hno21 nr22
theorem hit22   : pu22 10 ([] : List C) = some (.val (.bool true)) :=
  (ext_hit _).trans (tabOf_enc ij22 ⟨(), trivial⟩)

theorem law6 {gl : Nat → C} (hgn : ∀ g, noRef 0 (gl g) = true) (hg1 : gl 1 = .kp (cl wC kc)) (key : List UInt8) (t : List UInt8)  : FC Tryd.prog gl 6 [.val (str key), .val (str t)] [] (.val (.bool true)) [] := fc6 (ok22 hgn hg1 0) (show pu22 10 [] = some (.val (.bool true)) from by intros; apply hit22 <;> assumption) (show ∀ b : List UInt8, b.length < 140737488355328 → pu22 11 [sl bC .no b] = some (.agg (cl bC (sha b))) from by intros; rw [pu22, ext_miss (by decide), pu21, ext_miss (by decide), pu20, ext_miss (by decide), pu19, ext_miss (by decide), pu18, ext_miss (by decide), pu17, ext_miss (by decide), pu16, ext_miss (by decide), pu15, ext_miss (by decide), pu14, ext_miss (by decide), pu13, ext_miss (by decide), pu12, ext_miss (by decide), pu11, ext_miss (by decide), pu10, ext_miss (by decide), pu9, ext_miss (by decide)]; apply hit8 <;> assumption) (show ∀ key t : List UInt8, key.length < 1099511627776 → t.length < 1099511627776 → pu22 18 [.val (str key), .val (str t)] = some (.val (str (hmac key t))) from by intros; rw [pu22, ext_miss (by decide), pu21, ext_miss (by decide), pu20, ext_miss (by decide), pu19, ext_miss (by decide), pu18, ext_miss (by decide), pu17, ext_miss (by decide), pu16, ext_miss (by decide), pu15, ext_miss (by decide), pu14, ext_miss (by decide), pu13, ext_miss (by decide), pu12, ext_miss (by decide), pu11, ext_miss (by decide)]; apply hit10 <;> assumption) (show ∀ h : List UInt8, h.length = 32 → pu22 20 [.agg (cl bC h)] = some (.val (str h)) from by intros; rw [pu22, ext_miss (by decide), pu21, ext_miss (by decide), pu20, ext_miss (by decide), pu19, ext_miss (by decide)]; apply hit18 <;> assumption) (key) (t)

theorem law8 {gl : Nat → C} (hgn : ∀ g, noRef 0 (gl g) = true) (hg1 : gl 1 = .kp (cl wC kc)) (s : UInt8) (t : UInt8) (p : List (List UInt8)) (q : List (List UInt8))  : FC Tryd.prog gl 8 [.agg (cl bC [s, t]), sl sC .no p, sl sC .no q] [] (.val (.bool true)) [] := fc8 (ok22 hgn hg1 0) (show pu22 10 [] = some (.val (.bool true)) from by intros; apply hit22 <;> assumption) (show ∀ b : List UInt8, b.length < 140737488355328 → pu22 11 [sl bC .no b] = some (.agg (cl bC (sha b))) from by intros; rw [pu22, ext_miss (by decide), pu21, ext_miss (by decide), pu20, ext_miss (by decide), pu19, ext_miss (by decide), pu18, ext_miss (by decide), pu17, ext_miss (by decide), pu16, ext_miss (by decide), pu15, ext_miss (by decide), pu14, ext_miss (by decide), pu13, ext_miss (by decide), pu12, ext_miss (by decide), pu11, ext_miss (by decide), pu10, ext_miss (by decide), pu9, ext_miss (by decide)]; apply hit8 <;> assumption) (show ∀ l : List (List UInt8), pu22 13 [sl sC .no l] = some (.val (.bool (few l))) from by intros; rw [pu22, ext_miss (by decide), pu21, ext_miss (by decide), pu20, ext_miss (by decide), pu19, ext_miss (by decide), pu18, ext_miss (by decide)]; apply hit17 <;> assumption) (show ∀ (tag : Int) (parts : List (List UInt8)), (inp tag parts).length < 1099511627776 → pu22 21 [.val (.int .i64 tag), sl sC .no parts] = some (.agg (cl bC ((sha (inp tag parts)).take 16))) from by intros; rw [pu22, ext_miss (by decide), pu21, ext_miss (by decide), pu20, ext_miss (by decide), pu19, ext_miss (by decide), pu18, ext_miss (by decide), pu17, ext_miss (by decide), pu16, ext_miss (by decide), pu15, ext_miss (by decide), pu14, ext_miss (by decide)]; apply hit13 <;> assumption) (show ∀ (tag : Int) (parts : List (List UInt8)), (inp tag parts).length < 1099511627776 → pu22 23 [.val (.int .i64 tag), sl sC .no parts] = some (sl bC (.own 1) (inp tag parts)) from by intros; rw [pu22, ext_miss (by decide)]; apply hit21 <;> assumption) (s) (t) (p) (q)

theorem law9 {gl : Nat → C} (hgn : ∀ g, noRef 0 (gl g) = true) (hg1 : gl 1 = .kp (cl wC kc)) (x : List UInt8) (y : List UInt8)  : FC Tryd.prog gl 9 [.val (str x), .val (str y)] [] (.val (.bool true)) [] := fc9 (ok22 hgn hg1 0) (show pu22 10 [] = some (.val (.bool true)) from by intros; apply hit22 <;> assumption) (show ∀ x y : List UInt8, x.length < 1099511627776 → y.length < 1099511627776 → pu22 24 [.val (str x), .val (str y)] = some (.val (.bool (decide (x = y)))) from by intros; rw [pu22, ext_miss (by decide), pu21, ext_miss (by decide), pu20, ext_miss (by decide), pu19, ext_miss (by decide), pu18, ext_miss (by decide), pu17, ext_miss (by decide), pu16, ext_miss (by decide), pu15, ext_miss (by decide)]; apply hit14 <;> assumption) (x) (y)

end Go.Sx.TB
