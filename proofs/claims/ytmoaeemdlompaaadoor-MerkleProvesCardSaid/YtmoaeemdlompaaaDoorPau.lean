/-
  Package merkle: the example; proofs of the package and of the reference. And what follows.
-/
import Derived.Test.YtmoaeemdlompaaaDoorPat
set_option linter.unusedSimpArgs false
set_option linter.unusedVariables false
namespace Go.Sx
open Go.RowKit Go.Proofs
set_option maxRecDepth 100000
set_option maxHeartbeats 8000000
theorem fiv_mk : bsA (some ⟨.struct #[Field.mk "Key" 9 0 false "" "" 0, Field.mk "Value" 9 1 false "" "" 16], 2, 32, [str [], str []]⟩) 5 [(0, .agg [.val (str [97]), .val (str [49])]), (1, .agg [.val (str [99]), .val (str [50])]), (2, .agg [.val (str [100]), .val (str [51])]), (3, .agg [.val (str [102]), .val (str [52])]), (4, .agg [.val (str [103]), .val (str [53])])] = some (vp (sl eC .full fiv)) := rfl
theorem hxQ0 : (gt fQ 0).1 = [99] := rfl
theorem hxQ1 : (gt fQ 1).2 = [51] := rfl
theorem hxQl : fQ.length = 2 := rfl
theorem hC : fC.length = 1 := rfl
theorem hE : fE.length = 2 := rfl
theorem hR4 : fR.length = 4 := rfl
theorem X_fc55 {p : Prop} (e : p := by intro KZ hZ; simp -implicitDefEqProofs (disch := first | omega | (simp only [go_sem, lA, lD, lT] <;> omega) | decide) only [go_sem, ↓reduceIte, Nat.reduceEqDiff, reduceCtorEq, Nat.reduceLT, Nat.reduceBEq, Nat.reduceAdd, fiv_mk, hy]; with_reducible exact hZ) : p := e
theorem F_fc55 {p : Prop} (e : p := by simp -implicitDefEqProofs (disch := first | omega | (simp only [go_sem, lA, lD, lT] <;> omega) | decide) only [go_sem, ↓reduceIte, Nat.reduceEqDiff, reduceCtorEq]; all_goals (rfl)) : p := e
theorem fc55 {gl : Nat → C} {M : Nat} {pu : Nat → List C → Option C}  (hcx : CxOK (cxP gl M pu))   : FC Tryd.prog gl 55 ([] : List C) [] (sl eC .full fiv) [] := by
 replace hcx := hcx.reN (M := 7)
 refine FC.ofA (cx := cxP gl 7 pu) (rs := [.tmp 0]) rfl Tryd.func55 rfl rfl rfl (by simp only [List.length_cons, List.length_nil]; decide) (by simp only [go_sem]) ?_
 simp only [ini, go_sem]
 have hy := True.intro
 refine Tr.w hcx [] _ [] rfl rfl rfl ?_ X_fc55
 refine Tr.w hcx [1000006] _ [] rfl rfl rfl ?_ X_fc55
 exact Tr.ret F_fc55
theorem X_fc19 {p : Prop} (e : p := by intro KZ hZ; simp -implicitDefEqProofs (maxSteps := 2000000) (disch := first | omega | (simp only [go_sem, lA, lD, lT, hrl, q1, q2, q3, q4, q5, q6, q7, q10] <;> omega) | decide) only [go_sem, ↓reduceIte, Nat.reduceEqDiff, reduceCtorEq, Nat.reduceLT, Nat.reduceBEq, Nat.reduceAdd, eq_self, decide_true, decide_false, not_true_eq_false, not_false_eq_true, h55, e12, e22c, e22e, e22h, e24, k1, k2, k3, k4, k5, q1, q2, q3, q4, q5, q6, q7, hy]; with_reducible exact hZ) : p := e
theorem F_fc19 {p : Prop} (e : p := by simp -implicitDefEqProofs (disch := first | omega | (simp only [go_sem, lA, lD, lT, hrl, q1, q2, q3, q4, q5, q6, q7, q10] <;> omega) | decide) only [go_sem, ↓reduceIte, Nat.reduceEqDiff, reduceCtorEq]; all_goals (rfl)) : p := e
theorem fc19 {gl : Nat → C} {M : Nat} {pu : Nat → List C → Option C}  (hcx : CxOK (cxP gl M pu))  (h12 : ∀ l : List Leaf, LB l → pu 12 [sl eC .no l] = some (.tup [.agg (cl bC (rooT l).1), .val (nI (rooT l).2)])) (h22 : ∀ (l : List Leaf) (k : List UInt8), LB l → pu 22 [sl eC .no l, .val (str k)] = some (.tup [.agg [.val (nI (prvT l k).1.1), .val (nI (prvT l k).1.2.1), sl eC .no (prvT l k).1.2.2.1, sl dC .no (prvT l k).1.2.2.2], .val (nI (prvT l k).2)])) (h24 : ∀ (l : List Leaf) (x y : List UInt8), LB l → pu 24 [sl eC .no l, .val (str x), .val (str y)] = some (.tup [.agg [.val (nI (rngT l x y).1.1), .val (nI (rngT l x y).1.2.1), sl eC .no (rngT l x y).1.2.2.1, sl dC .no (rngT l x y).1.2.2.2], .val (nI (rngT l x y).2)])) (h29 : ∀ (r : List UInt8) (k : List UInt8) (f z : Int) (l : List Leaf) (S : List Dig), r.length = 16 → (-9223372036854775808 ≤ f ∧ f ≤ 9223372036854775807) → (-9223372036854775808 ≤ z ∧ z ≤ 9223372036854775807) → LB l → S.length ≤ 1000000 → pu 29 [.agg (cl bC r), .val (str k), .agg [.val (.int .i64 f), .val (.int .i64 z), sl eC .no l, sl dC .no S]] = some (.tup [.val (str (chkT r k f z l S).1), .val (.bool (chkT r k f z l S).2.1), .val (nI (chkT r k f z l S).2.2)])) (h32 : ∀ (r x y : List UInt8) (f z : Int) (l : List Leaf) (S : List Dig), r.length = 16 → (-9223372036854775808 ≤ f ∧ f ≤ 9223372036854775807) → (-9223372036854775808 ≤ z ∧ z ≤ 9223372036854775807) → LB l → S.length ≤ 1000000 → pu 32 [.agg (cl bC r), .val (str x), .val (str y), .agg [.val (.int .i64 f), .val (.int .i64 z), sl eC .no l, sl dC .no S]] = some (.tup [sl eC .no (crgT r x y f z l S).1, .val (nI (crgT r x y f z l S).2)])) (h55 : pu 55 [] = some (sl eC .full fiv))  : FC Tryd.prog gl 19 ([] : List C) [] (.val (.bool true)) [] := by
 replace hcx := hcx.reN (M := 219)
 refine FC.ofA (cx := cxP gl 219 pu) (rs := [.tmp 0]) rfl Tryd.func19 rfl rfl rfl (by simp only [List.length_cons, List.length_nil]; decide) (by simp only [go_sem]) ?_
 simp only [ini, go_sem]
 have hy := True.intro
 have e12 : pu 12 [sl eC .no fiv] = some (.tup [.agg (cl bC (rotL fiv)), .val (nI 0)]) := (h12 fiv fiv_lb).trans (by rw [rooT_ok fiv_v])
 have e22c : pu 22 [sl eC .no fiv, .val (str [99])] = some (.tup [.agg [.val (nI 1), .val (nI 5), sl eC .no fC, sl dC .no (shdT fiv 1 2)], .val (nI 0)]) := (h22 fiv [99] fiv_lb).trans (by rw [prv_c])
 have e22e : pu 22 [sl eC .no fiv, .val (str [101])] = some (.tup [.agg [.val (nI 2), .val (nI 5), sl eC .no fE, sl dC .no (shdT fiv 2 4)], .val (nI 0)]) := (h22 fiv [101] fiv_lb).trans (by rw [prv_e])
 have e22h : pu 22 [sl eC .no fiv, .val (str [104])] = some (.tup [.agg [.val (nI 4), .val (nI 5), sl eC .no fH, sl dC .no (shdT fiv 4 5)], .val (nI 0)]) := (h22 fiv [104] fiv_lb).trans (by rw [prv_h])
 have e24 : pu 24 [sl eC .no fiv, .val (str [99]), .val (str [102])] = some (.tup [.agg [.val (nI 0), .val (nI 5), sl eC .no fR, sl dC .no (shdT fiv 0 4)], .val (nI 0)]) := (h24 fiv [99] [102] fiv_lb).trans (by rw [rng_r])
 have lbC : LB fC := ⟨by decide, fun i hi => by
   have h5 : i < 1 := hi
   rcases i with _ | i
   · decide
   · omega⟩
 have lbE : LB fE := ⟨by decide, fun i hi => by
   have h5 : i < 2 := hi
   rcases i with _ | _ | i
   · decide
   · decide
   · omega⟩
 have lbR : LB fR := ⟨by decide, fun i hi => by
   have h5 : i < 4 := hi
   rcases i with _ | _ | _ | _ | i
   · decide
   · decide
   · decide
   · decide
   · omega⟩
 have k1 : pu 29 [.agg (cl bC (rotL fiv)), .val (str [99]), .agg [.val (nI 1), .val (nI 5), sl eC .no fC, sl dC .no (shdT fiv 1 2)]] = some (.tup [.val (str [50]), .val (.bool true), .val (nI 0)]) := (h29 (rotL fiv) [99] ((1 : Nat) : Int) ((5 : Nat) : Int) fC (shdT fiv 1 2) (rotL_len _) (by omega) (by omega) lbC (by decide)).trans (by rw [show ((1 : Nat) : Int) = 1 from rfl, show ((5 : Nat) : Int) = 5 from rfl, chk_c])
 have k2 : pu 29 [.agg (cl bC (rotL fiv)), .val (str [101]), .agg [.val (nI 2), .val (nI 5), sl eC .no fE, sl dC .no (shdT fiv 2 4)]] = some (.tup [.val (str []), .val (.bool false), .val (nI 0)]) := (h29 (rotL fiv) [101] ((2 : Nat) : Int) ((5 : Nat) : Int) fE (shdT fiv 2 4) (rotL_len _) (by omega) (by omega) lbE (by decide)).trans (by rw [show ((2 : Nat) : Int) = 2 from rfl, show ((5 : Nat) : Int) = 5 from rfl, chk_e])
 have k3 : pu 29 [.agg (cl bC (rotL fiv)), .val (str [100]), .agg [.val (nI 2), .val (nI 5), sl eC .no fE, sl dC .no (shdT fiv 2 4)]] = some (.tup [.val (str [51]), .val (.bool true), .val (nI 0)]) := (h29 (rotL fiv) [100] ((2 : Nat) : Int) ((5 : Nat) : Int) fE (shdT fiv 2 4) (rotL_len _) (by omega) (by omega) lbE (by decide)).trans (by rw [show ((2 : Nat) : Int) = 2 from rfl, show ((5 : Nat) : Int) = 5 from rfl, chk_d])
 have k4 : pu 29 [.agg (cl bC (rotL fiv)), .val (str [99]), .agg [.val (nI 2), .val (nI 5), sl eC .no fE, sl dC .no (shdT fiv 2 4)]] = some (.tup [.val (str []), .val (.bool false), .val (nI 17)]) := (h29 (rotL fiv) [99] ((2 : Nat) : Int) ((5 : Nat) : Int) fE (shdT fiv 2 4) (rotL_len _) (by omega) (by omega) lbE (by decide)).trans (by rw [show ((2 : Nat) : Int) = 2 from rfl, show ((5 : Nat) : Int) = 5 from rfl, chk_x])
 have k5 : pu 32 [.agg (cl bC (rotL fiv)), .val (str [99]), .val (str [102]), .agg [.val (nI 0), .val (nI 5), sl eC .no fR, sl dC .no (shdT fiv 0 4)]] = some (.tup [sl eC .no fQ, .val (nI 0)]) := (h32 (rotL fiv) [99] [102] ((0 : Nat) : Int) ((5 : Nat) : Int) fR (shdT fiv 0 4) (rotL_len _) (by omega) (by omega) lbR (by decide)).trans (by rw [show ((0 : Nat) : Int) = 0 from rfl, show ((5 : Nat) : Int) = 5 from rfl, crg_r])
 have hrl := rotL_len fiv
 have q1 := shd_c
 have q2 := shd_e
 have q3 := shd_h
 have q4 := shd_r
 generalize shdT fiv 1 2 = SC at *
 generalize shdT fiv 2 4 = SE at *
 generalize shdT fiv 4 5 = SH at *
 generalize shdT fiv 0 4 = SR at *
 generalize rotL fiv = R at *
 have q5 := hC
 have q6 := hE
 have q7 := hR4
 have q8 := hxQ0
 have q9 := hxQ1
 have q10 := hxQl
 generalize fC = LC at *
 generalize fE = LE at *
 generalize fR = LR at *
 generalize fQ = LQ at *
 have x0 : ∀ u y z, ixL (some ⟨u, 2, y, z⟩) (some 0) 2 (cl eC LQ) = some (vp (.kp ((cl eC LQ).drop (0 * 2)))) := fun u y z => by
   have := ixL_some eC u y z 0 LQ (by omega)
   rw [q10] at this; exact this
 have x1 : ∀ u y z, ixL (some ⟨u, 2, y, z⟩) (some 1) 2 (cl eC LQ) = some (vp (.kp ((cl eC LQ).drop (1 * 2)))) := fun u y z => by
   have := ixL_some eC u y z 1 LQ (by omega)
   rw [q10] at this; exact this
 have x0a := fk41_0 LQ 0 (by omega)
 have x0b := rdc_e0 LQ 0 (by omega)
 have x1a := fk41_1 LQ 1 (by omega)
 have x1b := rdc_e1 LQ 1 (by omega)
 rw [q8] at x0b
 rw [q9] at x1b
 generalize (cl eC LQ).drop (0 * 2) = K0 at *
 generalize (cl eC LQ).drop (1 * 2) = K1 at *
 generalize (cl eC LQ).drop (1 * 2 + 1) = K2 at *
 refine Tr.w hcx [] _ [] rfl rfl rfl ?_ X_fc19
 refine Tr.w hcx [1000026] _ [] rfl rfl rfl ?_ X_fc19
 refine Tr.w hcx [1000031] _ [none] rfl rfl rfl ?_ X_fc19
 refine Tr.k [1, 2, 3] ?_
 refine Tr.w hcx [1000036] _ [none] rfl rfl rfl ?_ X_fc19
 refine Tr.k [1, 2, 3, 4, 5] ?_
 refine Tr.w hcx [1000041] _ [none] rfl rfl rfl ?_ X_fc19
 refine Tr.k [1, 2, 3, 4, 5, 6, 7] ?_
 refine Tr.w hcx [1000046] _ [none] rfl rfl rfl ?_ X_fc19
 refine Tr.k [1, 2, 3, 4, 5, 6, 7, 8, 9] ?_
 refine Tr.w hcx [1000051] _ [none] rfl rfl rfl ?_ X_fc19
 refine Tr.k [2, 3, 4, 5, 6, 7, 8, 9, 10, 11] ?_
 refine Tr.seqK fun K1 hK1 => ?_
 refine Tr.w hcx [] [some 52, some 53, some 54, some 55, some 56, some 57, some 58, some 59, some 60, some 61, some 62, some 63, some 64, some 65, some 66, some 67, some 68, some 69] [] rfl rfl rfl ?_ X_fc19
 refine Tr.k [2, 4, 6, 8, 10, 69] ?_
 refine Tr.cF rfl ?_
 refine Tr.skip ?_
 refine hK1 _ ?_
 refine Tr.k [2, 4, 6, 8, 10] ?_
 refine Tr.seqK fun K2 hK2 => ?_
 refine Tr.w hcx [] [some 70, some 71, some 72, some 73, some 74, some 75, some 76, some 77, some 78, some 79, some 80, some 81, some 82, some 83, some 84, some 85, some 86, some 87, some 88, some 89, some 90, some 91, some 92, some 93, some 94, some 95, some 96, some 97, some 98, some 99, some 100, some 101, some 102, some 103, some 104, some 105, some 106, some 107, some 108, some 109, some 110, some 111, some 112, some 113, some 114, some 115, some 116, some 117, some 118, some 119, some 120, some 121, some 122, some 123, some 124, some 125, some 126, some 127, some 128, some 129] [] rfl rfl rfl ?_ X_fc19
 refine Tr.k [2, 4, 6, 10, 129] ?_
 refine Tr.cF rfl ?_
 refine Tr.skip ?_
 refine hK2 _ ?_
 refine Tr.k [2, 4, 6, 10] ?_
 refine Tr.w hcx [1000134, 1000135, 1000136] _ [] rfl rfl rfl ?_ X_fc19
 refine Tr.k [2, 6, 10, 12, 13, 14] ?_
 refine Tr.w hcx [1000141, 1000142, 1000143] _ [] rfl rfl rfl ?_ X_fc19
 refine Tr.k [2, 6, 10, 12, 13, 14, 16, 17] ?_
 refine Tr.w hcx [1000148, 1000149, 1000150] _ [] rfl rfl rfl ?_ X_fc19
 refine Tr.k [2, 6, 10, 12, 13, 14, 16, 17, 18, 19, 20] ?_
 refine Tr.w hcx [1000155, 1000156, 1000157] _ [] rfl rfl rfl ?_ X_fc19
 refine Tr.k [2, 10, 12, 13, 14, 16, 17, 18, 19, 20, 23] ?_
 refine Tr.w hcx [1000162, 1000163] _ [] rfl rfl rfl ?_ X_fc19
 refine Tr.k [12, 13, 14, 16, 17, 18, 19, 20, 23, 24, 25] ?_
 have hy := And.intro @x0 (And.intro @x1 (And.intro @x0a (And.intro @x0b (And.intro @x1a (And.intro @x1b @q10)))))
 refine Tr.w hcx [1000218] [some 164, some 165, some 166, some 167, some 168, some 169, some 170, some 171, some 172, some 173, some 174, some 175, some 176, some 177, some 178, some 179, some 180, some 181, some 182, some 183, some 184, some 185, some 186, some 187, some 188, some 189, some 190, some 191, some 192, some 193, some 194, some 195, some 196, some 197, some 198, some 199, some 200, some 201, some 202, some 203, some 204, some 205, some 206, some 207, some 208, some 209, some 210, some 211, some 212, some 213, some 214, some 215, some 216, some 217, some 218, some 0] [] rfl rfl rfl ?_ X_fc19
 refine Tr.k [0] ?_
 exact Tr.ret F_fc19
theorem X_fc60 {p : Prop} (e : p := by intro KZ hZ; simp -implicitDefEqProofs (disch := first | omega | (simp only [go_sem, lA, lD, lT, hb1, hb2] <;> omega) | decide) only [go_sem, ↓reduceIte, Nat.reduceEqDiff, reduceCtorEq, Nat.reduceLT, Nat.reduceBEq, Nat.reduceAdd, eq23, dig_ext, hy]; with_reducible exact hZ) : p := e
theorem Y_fc60 {p : Prop} (e : p := by intro KZ hZ; simp -implicitDefEqProofs (disch := first | omega | (simp only [go_sem, lA, lD, lT, hb1, hb2] <;> omega) | decide) only [go_sem, ↓reduceIte, Nat.reduceEqDiff, reduceCtorEq, Nat.reduceLT, Nat.reduceBEq, Nat.reduceAdd, eq23, dig_ext, hy]; with_reducible refine And.intro ?_ hZ; first | exact rfl | decide) : p := e
theorem F_fc60 {p : Prop} (e : p := by simp -implicitDefEqProofs (disch := first | omega | (simp only [go_sem, lA, lD, lT, hb1, hb2] <;> omega) | decide) only [go_sem, ↓reduceIte, Nat.reduceEqDiff, reduceCtorEq]; all_goals (first | rw [dec_len hc10] | rw [dec_ne hc25] | rw [dec_eq hc14 (Classical.not_not.1 hc10) hA])) : p := e
theorem fc60 {gl : Nat → C} {M : Nat} {pu : Nat → List C → Option C}  (hcx : CxOK (cxP gl M pu))  (x y : List Dig) (hx : x.length < 9223372036854775807) : FC Tryd.prog gl 60 [sl dC .no x, sl dC .no y] [] (.val (.bool (decide (x = y)))) [] := by
 replace hcx := hcx.reN (M := 26)
 refine FC.ofA (cx := cxP gl 26 pu) (rs := [.tmp 4]) rfl Tryd.func60 rfl rfl rfl (by simp only [List.length_cons, List.length_nil]; decide) (by simp only [go_sem]) ?_
 simp only [ini, go_sem]
 have hy := True.intro
 have hb1 := True.intro
 have hb2 := True.intro
 refine Tr.w hcx [] _ [] rfl rfl rfl ?_ X_fc60
 refine Tr.seqK fun K1 hK1 => ?_
 refine Tr.w hcx [] _ [] rfl rfl rfl ?_ X_fc60
 refine Tr.cD rfl (fun hc10 => ?_) (fun hc10 => ?_)
 ·
  refine Tr.w hcx [] _ [] rfl rfl rfl ?_ X_fc60
  exact Tr.ret F_fc60
 have hll : x.length = y.length := Classical.not_not.1 hc10
 refine Tr.skip ?_
 refine hK1 _ ?_
 refine Tr.seqK fun K2 hK2 => ?_
 refine Tr.w hcx [] _ [] rfl rfl rfl ?_ X_fc60
 refine Tr.k [0, 1, 5] ?_
 refine Tr.blk ?_
 refine Tr.loopI (α := Nat) (fun a => [(0, ?v0_1), (1, ?v1_1), (5, .val (nI a))]) (fun a => ?h_1) (fun a => a ≤ x.length ∧ x.take a = y.take a) (fun a => x.length - a) (0) ?_ ?le_1 ?hh_1 ?bd_1
 case hh_1 => exact rfl
 case le_1 => exact LT
 · exact ⟨by omega, rfl⟩
 rintro i ⟨hi, hA⟩
 refine Tr.seqK fun K3 hK3 => ?_
 refine Tr.w hcx [] _ [] rfl rfl rfl ?_ X_fc60
 refine Tr.cD rfl (fun hc14 => ?_) (fun hc14 => ?_)
 ·
  have hb1 := (gt x i).2
  have hb2 := (gt y i).2
  refine Tr.skip ?_
  refine hK3 _ ?_
  refine Tr.seqK fun K4 hK4 => ?_
  refine Tr.blk ?_
  refine Tr.wD hcx hMO [] _ [] rfl rfl rfl rfl ?_ Y_fc60
  refine Tr.cD rfl (fun hc25 => ?_) (fun hc25 => ?_)
  ·
   refine Tr.w hcx [] _ [] rfl rfl rfl ?_ X_fc60
   exact Tr.ret F_fc60
  refine Tr.skip ?_
  refine hK4 _ ?_
  refine Tr.v hcx [1000016] _ [] rfl rfl rfl ?_ X_fc60
  exact ⟨i + 1, ⟨⟨by omega, take_next2 hc14 (Classical.not_not.1 hc10) hA (Classical.not_not.1 hc25)⟩, O1⟩, LT, rfl⟩
 refine Tr.exit ?_
 refine hK2 _ ?_
 refine Tr.w hcx [] _ [] rfl rfl rfl ?_ X_fc60
 exact Tr.ret F_fc60
end Go.Sx
namespace Go.Sx
open Go.RowKit Go.Proofs
set_option maxRecDepth 100000
set_option maxHeartbeats 8000000
theorem from_ge {l : List Leaf} {k : List UInt8} (hs : Srt l) {j : Nat} (hj : j < l.length) (h : bl (gt l j).1 k = false) : fromT l k ≤ j := by
  obtain ⟨d, hd⟩ : ∃ d, l.length = j + d := ⟨l.length - j, by omega⟩
  unfold fromT
  rw [hd, cnt_stop d (by omega) (bs_hi hs h)]
  exact cntL l k j
theorem from_at {l : List Leaf} {k : List UInt8} (hs : Srt l) {j : Nat} (hj : j < l.length) (h : (gt l j).1 = k) : fromT l k = j := by
  have h1 := from_ge hs hj (k := k) (by rw [h]; exact bl_irr k)
  by_cases e : fromT l k = j
  · exact e
  · have h2 : cntT l k (fromT l k + (j - fromT l k)) = fromT l k + (j - fromT l k) := Srt.take hs _ (by omega) k (fun x hx => by rw [← h]; exact hs x j (by omega) hj)
    have h3 : ∀ d, j + d ≤ l.length → cntT l k j ≤ cntT l k (j + d) := fun d => by
      induction d with
      | zero => intro _; exact Nat.le_refl _
      | succ d ih =>
        intro hd
        have := ih (by omega)
        by_cases hb : bl (gt l (j + d)).1 k = true
        · rw [← Nat.add_assoc, cnt_T (by omega) hb]; omega
        · rw [← Nat.add_assoc, cnt_F (by omega) (Bool.eq_false_iff.2 hb)]; exact this
    have h4 := h3 (l.length - j) (by omega)
    rw [show j + (l.length - j) = l.length by omega] at h4
    rw [show fromT l k + (j - fromT l k) = j by omega] at h2
    unfold fromT at h1 e; omega
theorem has_from {l : List Leaf} {k : List UInt8} (hs : Srt l) : (((0 : Nat) : Int) ≤ hasI l k) = (fromT l k < l.length ∧ (gt l (fromT l k)).1 = k) := by
  apply propext
  unfold hasI
  cases hh : hasT l k with
  | none =>
    unfold hasT at hh
    rw [List.findIdx?_eq_none_iff] at hh
    constructor
    · intro h; simp at h
    · rintro ⟨h1, h2⟩
      have := hh _ (gt_mem l _ h1)
      simp [h2] at this
  | some n =>
    unfold hasT at hh
    rw [List.findIdx?_eq_some_iff_getElem] at hh
    obtain ⟨h1, h2, _⟩ := hh
    have e : gt l n = l[n] := by simp [gt, List.getD, List.getElem?_eq_getElem h1]
    have hk : (gt l n).1 = k := by rw [e]; simpa using h2
    have := from_at hs h1 hk
    constructor
    · intro _; rw [this]; exact ⟨h1, hk⟩
    · intro _; simp
theorem rowR_G {l : List Leaf} {a b : Nat} (h : a < b ∧ b ≤ l.length ∧ l.length ≤ 4096) : (rowR l 0 [] 12 a b ([], 0, false)).1 = (rowG l a b).1 := rowR_D ⟨h.1, h.2.1, by omega⟩
theorem X_fc27 {p : Prop} (e : p := by intro KZ hZ; simp -implicitDefEqProofs (disch := first | omega | (simp only [go_sem, lA, lD, lT] <;> omega) | decide) only [go_sem, ↓reduceIte, Nat.reduceEqDiff, reduceCtorEq, Nat.reduceLT, Nat.reduceBEq, Nat.reduceAdd, e18, hy]; with_reducible exact hZ) : p := e
theorem Y_fc27 {p : Prop} (e : p := by intro KZ hZ; simp -implicitDefEqProofs (disch := first | omega | (simp only [go_sem, lA, lD, lT] <;> omega) | decide) only [go_sem, ↓reduceIte, Nat.reduceEqDiff, reduceCtorEq, Nat.reduceLT, Nat.reduceBEq, Nat.reduceAdd, e18, hy]; with_reducible refine And.intro ?_ hZ; first | exact rfl | decide) : p := e
theorem F_fc27 {p : Prop} (e : p := by simp -implicitDefEqProofs (disch := first | omega | (simp only [go_sem, lA, lD, lT] <;> omega) | decide) only [go_sem, ↓reduceIte, Nat.reduceEqDiff, reduceCtorEq]; all_goals (rfl)) : p := e
theorem fc27 {gl : Nat → C} {M : Nat} {pu : Nat → List C → Option C}  (hcx : CxOK (cxP gl M pu))  (h18 : ∀ l : List Leaf, l.length ≤ 1000000 → pu 18 [sl eC .no l] = some (sl eC (.own 2) l)) (f z : Int) (l : List Leaf) (S : List Dig) (hl : l.length ≤ 1000000) : FC Tryd.prog gl 27 [.agg [.val (.int .i64 f), .val (.int .i64 z), sl eC .no l, sl dC .no S]] [] (.agg [.val (.int .i64 f), .val (.int .i64 z), sl eC .no l, sl dC .no S]) [] := by
 replace hcx := hcx.reN (M := 13)
 refine FC.ofA (cx := cxP gl 13 pu) (rs := [.cell 2 54]) rfl Tryd.func27 rfl rfl rfl (by simp only [List.length_cons, List.length_nil]; decide) (by simp only [go_sem]) ?_
 simp only [ini, go_sem]
 have hy := True.intro
 have e18 := h18 l hl
 refine Tr.w hcx [] _ [none, none] rfl rfl rfl ?_ X_fc27
 refine Tr.wD hcx hMO [] _ [] rfl rfl rfl rfl ?_ Y_fc27
 exact Tr.ret F_fc27
theorem X_fc26 {p : Prop} (e : p := by intro KZ hZ; simp -implicitDefEqProofs (disch := first | omega | (simp only [go_sem, lA, lD, lT] <;> omega) | decide) only [go_sem, ↓reduceIte, Nat.reduceEqDiff, reduceCtorEq, Nat.reduceLT, Nat.reduceBEq, Nat.reduceAdd, e34, e60, b1, b2, b3, hy]; with_reducible exact hZ) : p := e
theorem F_fc26 {p : Prop} (e : p := by simp -implicitDefEqProofs (disch := first | omega | (simp only [go_sem, lA, lD, lT] <;> omega) | decide) only [go_sem, ↓reduceIte, Nat.reduceEqDiff, reduceCtorEq]; all_goals (first | (simp only [b1, b2, b3, true_and, false_and, decide_false]; done) | (simp only [b1, b2, b3, true_and, false_and]; done) | (simp only [b1, b2, true_and, false_and, decide_false]; done) | (simp only [b1, false_and, decide_false]; done))) : p := e
theorem fc26 {gl : Nat → C} {M : Nat} {pu : Nat → List C → Option C}  (hcx : CxOK (cxP gl M pu))  (h34 : ∀ x y : List Leaf, x.length ≤ 1000000 → y.length ≤ 1000000 → pu 34 [sl eC .no x, sl eC .no y] = some (.val (.bool (decide (x = y))))) (h60 : ∀ x y : List Dig, x.length < 9223372036854775807 → pu 60 [sl dC .no x, sl dC .no y] = some (.val (.bool (decide (x = y))))) (f z : Int) (l : List Leaf) (S : List Dig) (f' z' : Int) (l' : List Leaf) (S' : List Dig) (hl : l.length ≤ 1000000) (hl' : l'.length ≤ 1000000) (hS : S.length ≤ 1000000) : FC Tryd.prog gl 26 [.agg [.val (.int .i64 f), .val (.int .i64 z), sl eC .no l, sl dC .no S], .agg [.val (.int .i64 f'), .val (.int .i64 z'), sl eC .no l', sl dC .no S']] [] ((.val (.bool (decide (f = f' ∧ z = z' ∧ l = l' ∧ S = S'))))) [] := by
 replace hcx := hcx.reN (M := 31)
 refine FC.ofA (cx := cxP gl 31 pu) (rs := [.tmp 4]) rfl Tryd.func26 rfl rfl rfl (by simp only [List.length_cons, List.length_nil]; decide) (by simp only [go_sem]) ?_
 simp only [ini, go_sem]
 have b1 := True.intro
 have b2 := True.intro
 have b3 := True.intro
 have hy := True.intro
 have e34 := h34 l l' hl hl'
 have e60 := h60 S S' (by omega)
 refine Tr.w hcx [] _ [none, none] rfl rfl rfl ?_ X_fc26
 refine Tr.k [2, 3] ?_
 by_cases b1 : f = f'
 ·
  have b1o := b1
  replace b1 := eq_true b1
  by_cases b2 : z = z'
  ·
   have b2o := b2
   replace b2 := eq_true b2
   by_cases b3 : l = l'
   ·
    have b3o := b3
    replace b3 := eq_true b3
    refine Tr.w hcx [1000030] [some 5, some 6, some 7, some 8, some 9, some 10, some 11, some 12, some 13, some 14, some 15, some 16, some 17, some 18, some 19, some 20, some 21, some 22, some 23, some 24, some 25, some 26, some 27, some 28, some 29, some 30, some 4] [] rfl rfl rfl ?_ X_fc26
    refine Tr.k [4] ?_
    exact Tr.ret F_fc26
   have b3o := b3
   replace b3 := eq_false b3
   refine Tr.w hcx [1000030] [some 5, some 6, some 7, some 8, some 9, some 10, some 11, some 12, some 13, some 14, some 15, some 16, some 17, some 18, some 19, some 20, some 21, some 22, some 23, some 24, some 25, some 26, some 27, some 28, some 29, some 30, some 4] [] rfl rfl rfl ?_ X_fc26
   refine Tr.k [4] ?_
   exact Tr.ret F_fc26
  have b2o := b2
  replace b2 := eq_false b2
  refine Tr.w hcx [1000030] [some 5, some 6, some 7, some 8, some 9, some 10, some 11, some 12, some 13, some 14, some 15, some 16, some 17, some 18, some 19, some 20, some 21, some 22, some 23, some 24, some 25, some 26, some 27, some 28, some 29, some 30, some 4] [] rfl rfl rfl ?_ X_fc26
  refine Tr.k [4] ?_
  exact Tr.ret F_fc26
 have b1o := b1
 replace b1 := eq_false b1
 refine Tr.w hcx [1000030] [some 5, some 6, some 7, some 8, some 9, some 10, some 11, some 12, some 13, some 14, some 15, some 16, some 17, some 18, some 19, some 20, some 21, some 22, some 23, some 24, some 25, some 26, some 27, some 28, some 29, some 30, some 4] [] rfl rfl rfl ?_ X_fc26
 refine Tr.k [4] ?_
 exact Tr.ret F_fc26
theorem X_fc92z {p : Prop} (e : p := by intro KZ hZ; simp -implicitDefEqProofs (disch := first | omega | (simp only [go_sem, lA, lD, lT, hgl] <;> omega) | decide) only [go_sem, ↓reduceIte, Nat.reduceEqDiff, reduceCtorEq, Nat.reduceLT, Nat.reduceBEq, Nat.reduceAdd, ep85, en85, b1, b2, hy]; with_reducible exact hZ) : p := e
theorem F_fc92z {p : Prop} (e : p := by simp -implicitDefEqProofs (disch := first | omega | (simp only [go_sem, lA, lD, lT, hgl] <;> omega) | decide) only [go_sem, ↓reduceIte, Nat.reduceEqDiff, reduceCtorEq]; all_goals (rfl)) : p := e
theorem fc92z {gl : Nat → C} {M0 : Nat} {pu : Nat → List C → Option C} {hp : Nat → List C → Hp → Option (C × Hp)} (hcx : CxOK (cxR gl M0 pu hp)) (l : List Leaf) (f e d a b : Nat) (hl : OkL l) (hf : f ≤ 5000 ∧ e ≤ 5000) (hd : d ≤ 12) (hab : a < b ∧ b ≤ l.length ∧ b - a ≤ 2 ^ d) (hz : b ≤ f ∨ e ≤ a ∨ b - a ≤ 1)  (hnr : ∀ (g : Nat) (xs : List C), noRefs 0 xs = false → pu g xs = none) (hn85 : ∀ xs : List C, (∃ b o, C.bp b o ∈ xs) → hp 85 xs [] = some (.top, [])) (hq85 : ∀ (pre suf : Hp) (l : List Leaf) (f : Nat) (S : List Dig) (d : Nat) (T : List (List UInt8)) (u : Nat) (sh : Bool) (a b : Nat), OkH pre → OkH suf → LZ l → f ≤ 5000 → S.length ≤ 1000000 → u ≤ S.length → T.length ≤ 900000 - 2 ^ (d + 1) → d ≤ 12 → a < b ∧ b ≤ 5000 ∧ b - a ≤ 2 ^ d → hp 85 [.bp pre.length 0, sl eC .no l, .val (nI f), .val (nI a), .val (nI b)] (pre ++ ([some [sl sC (.own 1) (T), sl dC .no S, .val (nI (u)), .val (.bool (sh))]] ++ suf)) = some (.agg (cl bC (rowR l f S d a b (T, u, sh)).1), pre ++ ([some [sl sC (.own 1) ((rowR l f S d a b (T, u, sh)).2.1), sl dC .no S, .val (nI ((rowR l f S d a b (T, u, sh)).2.2.1)), .val (.bool ((rowR l f S d a b (T, u, sh)).2.2.2))]] ++ suf))) : FC Tryd.prog gl 92 [sl eC .no l, .val (nI f), .val (nI e), .val (nI a), .val (nI b)] [] (sl dC (.own 16) (sdsT l f e d a b)) [] := by
 replace hcx := hcx.reN (M := 52)
 refine FC.ofA (cx := cxR gl 52 pu hp) (rs := [.tmp 10]) rfl Tryd.func92 rfl rfl rfl (by simp only [List.length_cons, List.length_nil]; decide) (by simp only [go_sem]) ?_
 simp only [ini, go_sem]
 have b1 := True.intro
 have b2 := True.intro
 have hy := True.intro
 have hll := hl.1
 have hgl := rowG_len l
 have en85 : ∀ x y : Nat, hp 85 [.bp 0 0, sl eC .no l, .val (nI 0), .val (nI x), .val (nI y)] [] = some (.top, []) := fun x y => hn85 _ ⟨0, 0, by simp⟩
 have ep85 : ∀ x y : Nat, pu 85 [.bp 0 0, sl eC .no l, .val (nI 0), .val (nI x), .val (nI y)] = none := fun x y => hnr 85 _ rfl
 refine Tr.w hcx [] _ [] rfl rfl rfl ?_ X_fc92z
 refine Tr.seqK fun K1 hK1 => ?_
 by_cases b1 : b ≤ f
 ·
  refine Tr.w hcx [] [some 13, some 14, some 15, some 16, some 17, some 18, some 19, some 20] [] rfl rfl rfl ?_ X_fc92z
  refine Tr.cT rfl ?_
  refine Tr.w hcx [1000022] _ [none] rfl rfl rfl ?_ X_fc92z
  refine Tr.bxc 0 0 (sl sC (.own 1) []) _ rfl rfl (CLe_sln rfl) rfl ?_
  refine Tr.bxc 0 1 (sl dC .no []) _ rfl rfl (CLe_sln rfl) rfl ?_
  simp only [List.set_cons_succ, List.set_cons_zero]
  have e85 := hq85 [] [] l 0 [] 12 [] 0 false a b OkH.nil OkH.nil hl.lz (by omega) (by simp) (by simp) (by simp) (by omega) ⟨hab.1, by omega, by omega⟩
  simp only [List.cons_append, List.nil_append, List.length_cons, List.length_nil, Nat.zero_add] at e85
  rw [rowR_G ⟨hab.1, hab.2.1, hll⟩] at e85
  have hR := sds_s (l := l) (d := d) (f := f) (e := e) (a := a) (b := b) (Or.inl b1)
  have hy := @e85
  refine Tr.w hcx [1000028] _ [] rfl rfl rfl ?_ X_fc92z
  rw [hR]
  refine Tr.live [(10, sl dC (.own 16) [rowG l a b])] LT ?_
  exact Tr.ret F_fc92z
 by_cases b2 : e ≤ a
 ·
  refine Tr.w hcx [] [some 13, some 14, some 15, some 16, some 17, some 18, some 19, some 20] [] rfl rfl rfl ?_ X_fc92z
  refine Tr.cT rfl ?_
  refine Tr.w hcx [1000022] _ [none] rfl rfl rfl ?_ X_fc92z
  refine Tr.bxc 0 0 (sl sC (.own 1) []) _ rfl rfl (CLe_sln rfl) rfl ?_
  refine Tr.bxc 0 1 (sl dC .no []) _ rfl rfl (CLe_sln rfl) rfl ?_
  simp only [List.set_cons_succ, List.set_cons_zero]
  have e85 := hq85 [] [] l 0 [] 12 [] 0 false a b OkH.nil OkH.nil hl.lz (by omega) (by simp) (by simp) (by simp) (by omega) ⟨hab.1, by omega, by omega⟩
  simp only [List.cons_append, List.nil_append, List.length_cons, List.length_nil, Nat.zero_add] at e85
  rw [rowR_G ⟨hab.1, hab.2.1, hll⟩] at e85
  have hR := sds_s (l := l) (d := d) (f := f) (e := e) (a := a) (b := b) (Or.inr b2)
  have hy := @e85
  refine Tr.w hcx [1000028] _ [] rfl rfl rfl ?_ X_fc92z
  rw [hR]
  refine Tr.live [(10, sl dC (.own 16) [rowG l a b])] LT ?_
  exact Tr.ret F_fc92z
 refine Tr.w hcx [] [some 13, some 14, some 15, some 16, some 17, some 18, some 19, some 20] [] rfl rfl rfl ?_ X_fc92z
 refine Tr.cF rfl ?_
 refine Tr.skip ?_
 refine hK1 _ ?_
 refine Tr.seqK fun K2 hK2 => ?_
 have h32 : b - a = 1 := by omega
 have hR := sds_l (l := l) (d := d) (f := f) (e := e) (a := a) (b := b) (fun h => h.elim b1 b2) (by omega)
 have hy := @h32
 refine Tr.w hcx [] _ [] rfl rfl rfl ?_ X_fc92z
 refine Tr.cT rfl ?_
 have hy := True.intro
 refine Tr.w hcx [] _ [] rfl rfl rfl ?_ X_fc92z
 rw [hR]
 refine Tr.live [(10, sl dC (.own 16) [])] LT ?_
 exact Tr.ret F_fc92z
theorem X_fc92s {p : Prop} (e : p := by intro KZ hZ; simp -implicitDefEqProofs (disch := first | omega | (simp only [go_sem, lA, lD, lT, hgl] <;> omega) | decide) only [go_sem, ↓reduceIte, Nat.reduceEqDiff, reduceCtorEq, Nat.reduceLT, Nat.reduceBEq, Nat.reduceAdd, hy]; with_reducible exact hZ) : p := e
theorem F_fc92s {p : Prop} (e : p := by simp -implicitDefEqProofs (disch := first | omega | (simp only [go_sem, lA, lD, lT, hgl] <;> omega) | decide) only [go_sem, ↓reduceIte, Nat.reduceEqDiff, reduceCtorEq]; all_goals (first | (rw [hR]; done) | (rw [hR]; rfl))) : p := e
theorem fc92s {gl : Nat → C} {M0 : Nat} {pu : Nat → List C → Option C} {hp : Nat → List C → Hp → Option (C × Hp)} (hcx : CxOK (cxR gl M0 pu hp)) (l : List Leaf) (f e d a b : Nat) (hl : OkL l) (hf : f ≤ 5000 ∧ e ≤ 5000) (hd : (d + 1) ≤ 12) (hab : a < b ∧ b ≤ l.length ∧ b - a ≤ 2 ^ (d + 1)) (h92 : ∀ a b : Nat, a < b ∧ b ≤ l.length ∧ b - a ≤ 2 ^ d → pu 92 [sl eC .no l, .val (nI f), .val (nI e), .val (nI a), .val (nI b)] = some (sl dC (.own 16) (sdsT l f e d a b))) (hz1 : ¬ b ≤ f) (hz2 : ¬ e ≤ a) (hz3 : ¬ b - a ≤ 1)  (h106 : ∀ n : Nat, n ≤ 4611686018427387000 → pu 106 [.val (nI n)] = some (.val (nI (halfT n)))) : FC Tryd.prog gl 92 [sl eC .no l, .val (nI f), .val (nI e), .val (nI a), .val (nI b)] [] (sl dC (.own 16) (sdsT l f e (d + 1) a b)) [] := by
 replace hcx := hcx.reN (M := 52)
 refine FC.ofA (cx := cxR gl 52 pu hp) (rs := [.tmp 10]) rfl Tryd.func92 rfl rfl rfl (by simp only [List.length_cons, List.length_nil]; decide) (by simp only [go_sem]) ?_
 simp only [ini, go_sem]
 have hy := True.intro
 have hll := hl.1
 have hgl := rowG_len l
 have b1 := hz1
 have b2 := hz2
 have h32 : (b - a = 1) = False := eq_false (by omega)
 refine Tr.w hcx [] _ [] rfl rfl rfl ?_ X_fc92s
 refine Tr.seqK fun K1 hK1 => ?_
 have hy := And.intro @b1 @b2
 refine Tr.w hcx [] [some 13, some 14, some 15, some 16, some 17, some 18, some 19, some 20] [] rfl rfl rfl ?_ X_fc92s
 refine Tr.cF rfl ?_
 refine Tr.skip ?_
 refine hK1 _ ?_
 refine Tr.seqK fun K2 hK2 => ?_
 have hy := @h32
 refine Tr.w hcx [] _ [] rfl rfl rfl ?_ X_fc92s
 refine Tr.cF rfl ?_
 refine Tr.skip ?_
 refine hK2 _ ?_
 have e106 := h106 (b - a) (by omega)
 have hh := half_lt (n := b - a) (by omega)
 have hh2 := half_le (by omega) hab.2.2
 have e1 := h92 a (a + halfT (b - a)) (by omega)
 have e2 := h92 (a + halfT (b - a)) b (by omega)
 have hp3 : 2 ^ d ≤ 2 ^ 12 := Nat.pow_le_pow_right (by omega) (by omega)
 have hs1 := sds_len l f e d a (a + halfT (b - a))
 have hs2 := sds_len l f e d (a + halfT (b - a)) b
 have hR := sds_n (l := l) (d := d) (f := f) (e := e) (a := a) (b := b) (fun h => h.elim b1 b2) hz3
 have hy := @e106
 refine Tr.w hcx [1000038] _ [] rfl rfl rfl ?_ X_fc92s
 refine Tr.k [0, 1, 2, 3, 4, 12] ?_
 have hy := And.intro @e1 @e2
 refine Tr.w hcx [44, 1000051] _ [] rfl rfl rfl ?_ X_fc92s
 exact Tr.ret F_fc92s
theorem X_fc59 {p : Prop} (e : p := by intro KZ hZ; simp -implicitDefEqProofs (disch := first | omega | (simp only [go_sem, lA, lD, lT] <;> omega) | decide) only [go_sem, ↓reduceIte, Nat.reduceEqDiff, reduceCtorEq, Nat.reduceLT, Nat.reduceBEq, Nat.reduceAdd, hy]; with_reducible exact hZ) : p := e
theorem F_fc59 {p : Prop} (e : p := by simp -implicitDefEqProofs (disch := first | omega | (simp only [go_sem, lA, lD, lT] <;> omega) | decide) only [go_sem, ↓reduceIte, Nat.reduceEqDiff, reduceCtorEq]; all_goals (first | (rw [hR]; done) | (rw [hR]; rfl))) : p := e
theorem fc59 {gl : Nat → C} {M : Nat} {pu : Nat → List C → Option C}  (hcx : CxOK (cxP gl M pu))  (h92 : ∀ (l : List Leaf) (f e a b : Nat), OkL l → f ≤ 5000 ∧ e ≤ 5000 → a < b ∧ b ≤ l.length → pu 92 [sl eC .no l, .val (nI f), .val (nI e), .val (nI a), .val (nI b)] = some (sl dC (.own 16) (sdsT l f e 12 a b))) (l : List Leaf) (f e : Nat) (hl : OkL l) (hfe : f ≤ e ∧ e ≤ l.length) : FC Tryd.prog gl 59 [sl eC .no l, .val (nI f), .val (nI e)] [] (.agg [.val (nI f), .val (nI l.length), sl eC .no ((l.drop f).take (e - f)), sl dC .no (shdT l f e)]) [] := by
 replace hcx := hcx.reN (M := 29)
 refine FC.ofA (cx := cxP gl 29 pu) (rs := [.cell 6 54]) rfl Tryd.func59 rfl rfl rfl (by simp only [List.length_cons, List.length_nil]; decide) (by simp only [go_sem]) ?_
 simp only [ini, go_sem]
 have hy := True.intro
 have hll := hl.1
 refine Tr.w hcx [] _ [none] rfl rfl rfl ?_ X_fc59
 refine Tr.w hcx [11] _ [none] rfl rfl rfl ?_ X_fc59
 refine Tr.seqK fun K1 hK1 => ?_
 refine Tr.w hcx [] _ [] rfl rfl rfl ?_ X_fc59
 refine Tr.cD rfl (fun hc20 => ?_) (fun hc20 => ?_)
 ·
  have hR := shd_n (l := l) (f := f) (e := e) (by omega)
  have e92 := h92 l f e 0 l.length hl (by omega) (by omega)
  have hy := @e92
  refine Tr.v hcx [] _ [] rfl rfl rfl ?_ X_fc59
  refine hK1 _ ?_
  have hy := True.intro
  refine Tr.w hcx [] _ [] rfl rfl rfl ?_ X_fc59
  exact Tr.ret F_fc59
 have hR := shd_0 (l := l) (f := f) (e := e) (by omega)
 refine Tr.bxc 1 3 (sl dC .no []) _ rfl rfl (CLe_sln rfl) rfl ?_
 simp only [List.set_cons_succ, List.set_cons_zero]
 refine Tr.skip ?_
 refine hK1 _ ?_
 refine Tr.w hcx [] _ [] rfl rfl rfl ?_ X_fc59
 exact Tr.ret F_fc59
theorem X_fc23 {p : Prop} (e : p := by intro KZ hZ; simp -implicitDefEqProofs (disch := first | omega | (simp only [go_sem, lA, lD, lT] <;> omega) | decide) only [go_sem, ↓reduceIte, Nat.reduceEqDiff, reduceCtorEq, Nat.reduceLT, Nat.reduceBEq, Nat.reduceAdd, e16, b1, b2, hy]; with_reducible exact hZ) : p := e
theorem F_fc23 {p : Prop} (e : p := by simp -implicitDefEqProofs (disch := first | omega | (simp only [go_sem, lA, lD, lT] <;> omega) | decide) only [go_sem, ↓reduceIte, Nat.reduceEqDiff, reduceCtorEq]; all_goals (first | (rw [hR]; done) | (rw [hR]; rfl) | (rw [hR]; simp only [shwT, Nat.add_sub_cancel_left]; done))) : p := e
theorem fc23 {gl : Nat → C} {M : Nat} {pu : Nat → List C → Option C}  (hcx : CxOK (cxP gl M pu))  (h16 : ∀ l : List Leaf, LB l → pu 16 [sl eC .no l] = some (.val (nI (valT l)))) (h58 : ∀ (l : List Leaf) (k : List UInt8), l.length ≤ 1000000 → pu 58 [sl eC .no l, .val (str k)] = some (.val (nI (fromT l k)))) (h35 : ∀ (l : List Leaf) (k : List UInt8), l.length ≤ 1000000 → pu 35 [sl eC .no l, .val (str k)] = some (.val (.int .i64 (hasI l k)))) (h59 : ∀ (l : List Leaf) (f e : Nat), OkL l → f ≤ e ∧ e ≤ l.length → pu 59 [sl eC .no l, .val (nI f), .val (nI e)] = some (.agg [.val (nI f), .val (nI l.length), sl eC .no ((l.drop f).take (e - f)), sl dC .no (shdT l f e)])) (l : List Leaf) (k : List UInt8) (hl : LB l) : FC Tryd.prog gl 23 [sl eC .no l, .val (str k)] [] (.tup [.agg [.val (nI (prvT l k).1.1), .val (nI (prvT l k).1.2.1), sl eC .no (prvT l k).1.2.2.1, sl dC .no (prvT l k).1.2.2.2], .val (nI (prvT l k).2)]) [] := by
 replace hcx := hcx.reN (M := 36)
 refine FC.ofA (cx := cxP gl 36 pu) (rs := [.cell 4 54, .tmp 5]) rfl Tryd.func23 rfl rfl rfl (by simp only [List.length_cons, List.length_nil]; decide) (by simp only [go_sem]) ?_
 simp only [ini, go_sem]
 have b1 := True.intro
 have b2 := True.intro
 have hy := True.intro
 have e16 := h16 l hl
 refine Tr.w hcx [] _ [none] rfl rfl rfl ?_ X_fc23
 refine Tr.w hcx [1000009] _ [] rfl rfl rfl ?_ X_fc23
 refine Tr.seqK fun K1 hK1 => ?_
 by_cases b1 : valT l = 0
 ·
  have hok := valT_ok (l := l) (by omega)
  have hll := hok.1
  have hsr := valT_srt b1
  have e58 := h58 l k (by omega)
  have e35 := h35 l k (by omega)
  have hfl := from_le l k
  have hhf := has_from (k := k) hsr
  obtain ⟨i, hi⟩ : ∃ i, fromT l k = i := ⟨_, rfl⟩
  rw [hi] at e58 hfl hhf
  refine Tr.w hcx [] _ [] rfl rfl rfl ?_ X_fc23
  refine Tr.cF rfl ?_
  refine Tr.skip ?_
  refine hK1 _ ?_
  have hy := @e58
  refine Tr.w hcx [1000016] _ [] rfl rfl rfl ?_ X_fc23
  refine Tr.seqK fun K2 hK2 => ?_
  by_cases b2 : i < l.length ∧ (gt l i).1 = k
  ·
   have h20 : (((0 : Nat) : Int) ≤ hasI l k) = True := by rw [hhf]; exact eq_true b2
   have hy := And.intro @e35 @h20
   refine Tr.w hcx [] _ [] rfl rfl rfl ?_ X_fc23
   refine Tr.cT rfl ?_
   have e59 := h59 l i (i + 1) hok (by have := b2.1; omega)
   have hR := prv_2 hi b1 b2.1 b2.2
   have hy := @e59
   refine Tr.w hcx [] _ [] rfl rfl rfl ?_ X_fc23
   exact Tr.ret F_fc23
  have h20 : (((0 : Nat) : Int) ≤ hasI l k) = False := by rw [hhf]; exact eq_false b2
  have hy := And.intro @e35 @h20
  refine Tr.w hcx [] _ [] rfl rfl rfl ?_ X_fc23
  refine Tr.cF rfl ?_
  refine Tr.skip ?_
  refine hK2 _ ?_
  refine Tr.k [0, 4, 7] ?_
  have e59 := h59 l (i - 1) (min (i + 1) l.length) hok (by omega)
  have hR := prv_3 hi b1 b2
  have hy := And.intro @e59 (And.intro @maxI @n_subG)
  refine Tr.w hcx [] _ [] rfl rfl rfl ?_ X_fc23
  exact Tr.ret F_fc23
 skip
 refine Tr.w hcx [] _ [] rfl rfl rfl ?_ X_fc23
 refine Tr.cT rfl ?_
 refine Tr.w hcx [1000013] _ [] rfl rfl rfl ?_ X_fc23
 refine Tr.bxc 0 2 (sl eC .no []) _ rfl rfl (CLe_sln rfl) rfl ?_
 refine Tr.bxc 0 3 (sl dC .no []) _ rfl rfl (CLe_sln rfl) rfl ?_
 simp only [List.set_cons_succ, List.set_cons_zero]
 have hR := prv_1 (k := k) b1
 exact Tr.ret F_fc23
theorem X_fc25 {p : Prop} (e : p := by intro KZ hZ; simp -implicitDefEqProofs (disch := first | omega | (simp only [go_sem, lA, lD, lT] <;> omega) | decide) only [go_sem, ↓reduceIte, Nat.reduceEqDiff, reduceCtorEq, Nat.reduceLT, Nat.reduceBEq, Nat.reduceAdd, e16, b1, b2, hy]; with_reducible exact hZ) : p := e
theorem F_fc25 {p : Prop} (e : p := by simp -implicitDefEqProofs (disch := first | omega | (simp only [go_sem, lA, lD, lT] <;> omega) | decide) only [go_sem, ↓reduceIte, Nat.reduceEqDiff, reduceCtorEq]; all_goals (first | (rw [hR]; done) | (rw [hR]; rfl))) : p := e
theorem fc25 {gl : Nat → C} {M : Nat} {pu : Nat → List C → Option C}  (hcx : CxOK (cxP gl M pu))  (h16 : ∀ l : List Leaf, LB l → pu 16 [sl eC .no l] = some (.val (nI (valT l)))) (h58 : ∀ (l : List Leaf) (k : List UInt8), l.length ≤ 1000000 → pu 58 [sl eC .no l, .val (str k)] = some (.val (nI (fromT l k)))) (h59 : ∀ (l : List Leaf) (f e : Nat), OkL l → f ≤ e ∧ e ≤ l.length → pu 59 [sl eC .no l, .val (nI f), .val (nI e)] = some (.agg [.val (nI f), .val (nI l.length), sl eC .no ((l.drop f).take (e - f)), sl dC .no (shdT l f e)])) (l : List Leaf) (x y : List UInt8) (hl : LB l) : FC Tryd.prog gl 25 [sl eC .no l, .val (str x), .val (str y)] [] (.tup [.agg [.val (nI (rngT l x y).1.1), .val (nI (rngT l x y).1.2.1), sl eC .no (rngT l x y).1.2.2.1, sl dC .no (rngT l x y).1.2.2.2], .val (nI (rngT l x y).2)]) [] := by
 replace hcx := hcx.reN (M := 33)
 refine FC.ofA (cx := cxP gl 33 pu) (rs := [.cell 6 54, .tmp 7]) rfl Tryd.func25 rfl rfl rfl (by simp only [List.length_cons, List.length_nil]; decide) (by simp only [go_sem]) ?_
 simp only [ini, go_sem]
 have b1 := True.intro
 have b2 := True.intro
 have hy := True.intro
 have e16 := h16 l hl
 refine Tr.w hcx [] _ [none] rfl rfl rfl ?_ X_fc25
 refine Tr.w hcx [1000010] _ [] rfl rfl rfl ?_ X_fc25
 refine Tr.seqK fun K1 hK1 => ?_
 by_cases b1 : valT l = 0
 ·
  have hok := valT_ok (l := l) (by omega)
  have hll := hok.1
  have hsr := valT_srt b1
  have e56a := h58 l x (by omega)
  have e56b := h58 l y (by omega)
  have hfx := from_le l x
  have hfy := from_le l y
  refine Tr.w hcx [] _ [] rfl rfl rfl ?_ X_fc25
  refine Tr.cF rfl ?_
  refine Tr.skip ?_
  refine hK1 _ ?_
  refine Tr.seqK fun K2 hK2 => ?_
  by_cases b2 : bl y x = true
  ·
   skip
   refine Tr.w hcx [] _ [] rfl rfl rfl ?_ X_fc25
   refine Tr.cT rfl ?_
   refine Tr.w hcx [] _ [] rfl rfl rfl ?_ X_fc25
   refine Tr.bxc 0 2 (sl eC .no []) _ rfl rfl (CLe_sln rfl) rfl ?_
   refine Tr.bxc 0 3 (sl dC .no []) _ rfl rfl (CLe_sln rfl) rfl ?_
   simp only [List.set_cons_succ, List.set_cons_zero]
   have hR := rng_2 b1 b2
   exact Tr.ret F_fc25
  have b2n := b2
  have hxy := from_mono hsr (Bool.eq_false_iff.2 b2)
  replace b2 := Bool.eq_false_iff.2 b2
  refine Tr.w hcx [] _ [] rfl rfl rfl ?_ X_fc25
  refine Tr.cF rfl ?_
  refine Tr.skip ?_
  refine hK2 _ ?_
  refine Tr.k [0, 1, 2, 6] ?_
  have e57 := h59 l (fromT l x - 1) (min (fromT l y + 1) l.length) hok (by omega)
  have hR := rng_3 b1 b2n
  have hy := And.intro @e56a (And.intro @e56b (And.intro @e57 (And.intro @maxI @n_subG)))
  refine Tr.w hcx [] _ [] rfl rfl rfl ?_ X_fc25
  exact Tr.ret F_fc25
 skip
 refine Tr.w hcx [] _ [] rfl rfl rfl ?_ X_fc25
 refine Tr.cT rfl ?_
 refine Tr.w hcx [1000014] _ [] rfl rfl rfl ?_ X_fc25
 refine Tr.bxc 0 2 (sl eC .no []) _ rfl rfl (CLe_sln rfl) rfl ?_
 refine Tr.bxc 0 3 (sl dC .no []) _ rfl rfl (CLe_sln rfl) rfl ?_
 simp only [List.set_cons_succ, List.set_cons_zero]
 have hR := rng_1 (x := x) (y := y) b1
 exact Tr.ret F_fc25
end Go.Sx
namespace Go.Sx
open Go.RowKit Go.Proofs
theorem seqL_z {α : Type} (f : α → List C) (k n : Nat) (acc : List (List α)) (h : acc.length = k ∧ k + 1 = n) : seqL f k n acc [(k, .val (.slice none 0 0))] = some (vp (.sl .full n (cl (lC f) acc ++ [.val (.slice none 0 0)]))) := by
  obtain ⟨h, h2⟩ := h
  have hl : (cl (lC f) acc).length = k := by rw [cl_len (f := lC f), h, Nat.mul_one]
  have e : n - k = 1 := by omega
  unfold seqL
  rw [e]
  show (match C.cells? (.val (.slice none 0 0)) with
    | some cs => if cs.length = 1 ∧ k + 1 ≤ (cl (lC f) acc ++ List.replicate 1 (C.val (.slice none 0 0))).length then lay1s n (splice (cl (lC f) acc ++ List.replicate 1 (C.val (.slice none 0 0))) k cs) [] else none
    | none => none) = _
  have hc : C.cells? (.val (.slice none 0 0)) = some [.val (.slice none 0 0)] := rfl
  rw [hc]
  simp only []
  rw [if_pos ⟨rfl, by rw [List.length_append, hl, List.length_replicate]; omega⟩]
  unfold splice
  rw [List.take_append_of_le_length (by omega), List.take_of_length_le (by omega), List.drop_append, List.drop_of_length_le (by omega), hl, List.length_singleton, show k + 1 - k = 1 by omega]
  simp only [List.replicate_one, List.drop_succ_cons, List.drop_nil, List.append_nil, List.nil_append]
  rfl
theorem RepK_w {G : Gh} {blk : Nat} {x y : C} (h : ∀ v, Rep G x v → Rep G y v) : ∀ {l : List C} {off : Nat}, RepK G blk off (l ++ [x]) → RepK G blk off (l ++ [y])
  | [], off, q => by
    simp only [List.nil_append, RepK, and_true] at q ⊢
    obtain ⟨u, h1, h2, h3⟩ := q
    exact ⟨u, h1, h2, h _ h3⟩
  | z :: l, off, q => by
    simp only [List.cons_append, RepK] at q ⊢
    exact ⟨q.1, RepK_w h q.2⟩
theorem CLe_lz {α : Type} {f : α → List C} {acc : List (List α)} {n : Nat} (hn : acc.length + 1 = n) : CLe (.sl .full n (cl (lC f) acc ++ [.val (.slice none 0 0)])) (sl (lC f) .full (acc ++ [[]])) := by
  subst hn
  refine ⟨fun G v q => ?_, fun s n xs e => by cases e⟩
  unfold sl
  simp only [Rep] at q ⊢
  obtain ⟨a, cap, h1, h2, h3, h4, h5⟩ := q
  refine ⟨a, cap, by rw [h1, List.length_append]; rfl, by rw [List.length_append]; exact h2, h3, (fun _ => by rw [List.length_append]; simpa using h4), ?_⟩
  rcases h5 with h5 | ⟨blk, off, ha, hk⟩
  · simp at h5
  · refine .inr ⟨blk, off, ha, ?_⟩
    rw [cl_app]
    exact RepK_w (fun v hv => (CLe.nil (.no)).1 G v hv) hk
/-- The three lists that the laws go through. -/
def LI3 (l : List Int) (r : List Leaf) : List (List Leaf) := [lvsT l, rawT r, []]
theorem lvs_lb (l : List Int) : (lvsT l).length ≤ 11 ∧ ∀ i, i < (lvsT l).length → (gt (lvsT l) i).1.length ≤ 2 ∧ (gt (lvsT l) i).2.length ≤ 3 := by
  have hN := lvsN_le l
  have key : ∀ n i, i < n → (gt (lvsR l n).1 i).1.length ≤ 2 ∧ (gt (lvsR l n).1 i).2.length ≤ 3 := fun n => by
    induction n with
    | zero => intro i h; omega
    | succ n ih =>
      intro i h
      have hl := lvsR_len l n
      simp only [lvsR]
      by_cases e : i < n
      · rw [gt_left _ _ _ (by omega)]; exact ih i e
      · have e : i = n := by omega
        subst e
        rw [gt_mid _ _ _ _ hl]
        refine ⟨(keyT_len _).2, ?_⟩
        have h5 := atI_lt l (2 * i + 1) (m := 5) (by omega)
        generalize atI l (2 * i + 1) 5 = k at h5
        show (gt vals5 k).length ≤ 3
        rcases k with _ | _ | _ | _ | _ | k
        · decide
        · decide
        · decide
        · decide
        · decide
        · omega
  unfold lvsT
  rw [lvsR_len]
  exact ⟨hN, fun i hi => key _ i hi⟩
theorem raw_lb (r : List Leaf) : (rawT r).length ≤ 8 ∧ ∀ i, i < (rawT r).length → (gt (rawT r) i).1.length ≤ 40 ∧ (gt (rawT r) i).2.length ≤ 40 := by
  unfold rawT
  rw [List.length_map]
  refine ⟨List.length_take_le _ _, fun i hi => ?_⟩
  have : gt ((r.take 8).map fun x : Leaf => (shT x.1 40, shT x.2 40)) i = (shT (gt (r.take 8) i).1 40, shT (gt (r.take 8) i).2 40) := by
    rw [gt, gt, List.getD, List.getD, List.getElem?_map, List.getElem?_eq_getElem hi]; rfl
  rw [this]
  exact ⟨List.length_take_le _ _, List.length_take_le _ _⟩
theorem LI3_len (l : List Int) (r : List Leaf) : (LI3 l r).length = 3 := rfl
theorem LI3_ok (l : List Int) (r : List Leaf) (j : Nat) (h : j < 3) : (gt (LI3 l r) j).length ≤ 11 ∧ ∀ i, i < (gt (LI3 l r) j).length → (gt (gt (LI3 l r) j) i).1.length ≤ 40 ∧ (gt (gt (LI3 l r) j) i).2.length ≤ 40 := by
  rcases j with _ | _ | _ | j
  · have := lvs_lb l
    exact ⟨this.1, fun i hi => by
      have h2 := this.2 i hi
      show (gt (lvsT l) i).1.length ≤ 40 ∧ (gt (lvsT l) i).2.length ≤ 40
      omega⟩
  · have := raw_lb r
    exact ⟨by have := this.1; show (rawT r).length ≤ 11; omega, this.2⟩
  · exact ⟨by show ([] : List Leaf).length ≤ 11; decide, fun i hi => absurd hi (Nat.not_lt_zero i)⟩
  · omega
theorem LB.ofSmall {l : List Leaf} (h : l.length ≤ 1000000 ∧ ∀ i, i < l.length → (gt l i).1.length ≤ 1000000 ∧ (gt l i).2.length ≤ 1000000) : LB l := ⟨by omega, fun i hi => by have := h.2 i hi; omega⟩
theorem shd_bd (l : List Leaf) (f e : Nat) : (shdT l f e).length ≤ 4096 := by
  unfold shdT; split
  · exact Nat.zero_le _
  · exact sds_len l f e 12 0 l.length
theorem shw_bd (l : List Leaf) (f e : Nat) : (shwT l f e).2.2.1.length ≤ l.length ∧ (shwT l f e).2.2.2.length ≤ 4096 := by
  refine ⟨?_, shd_bd l f e⟩
  show ((l.drop f).take (e - f)).length ≤ _
  rw [List.length_take, List.length_drop]; omega
theorem prv_bd (l : List Leaf) (k : List UInt8) : (prvT l k).1.2.2.1.length ≤ l.length ∧ (prvT l k).1.2.2.2.length ≤ 4096 := by
  unfold prvT; split
  · simp only []; split <;> exact shw_bd _ _ _
  · simp
theorem rng_bd (l : List Leaf) (x y : List UInt8) : (rngT l x y).1.2.2.1.length ≤ l.length ∧ (rngT l x y).1.2.2.2.length ≤ 4096 := by
  unfold rngT; split
  · split
    · simp
    · exact shw_bd _ _ _
  · simp
attribute [go_sem] seqL_z
theorem mvCs_lcl {α : Type} (ρ : List Nat) (f : α → List C) [h : Fla f] : ∀ l : List (List α), mvCs ρ (cl (lC f) l) = cl (lC f) l
  | [] => by show mvCs ρ [] = []; simp only [mvCs]
  | x :: l => by
    show mvCs ρ (sl f .no x :: cl (lC f) l) = sl f .no x :: cl (lC f) l
    simp only [mvCs, mvC_sl, mvCs_lcl ρ f l]
theorem mvC_lsl {α : Type} (ρ : List Nat) (f : α → List C) [h : Fla f] (r : Rt) (l : List (List α)) : mvC ρ (sl (lC f) r l) = sl (lC f) r l := by
  show mvC ρ (.sl r l.length (cl (lC f) l)) = .sl r l.length (cl (lC f) l)
  simp only [mvC, mvCs_lcl]
theorem rep3s (x y z : List UInt8) : (((List.replicate 3 []).set 0 x).set 1 y).set 2 z = [x, y, z] := rfl
end Go.Sx
namespace Go.Sx
open Go.RowKit Go.Proofs
set_option maxRecDepth 100000
set_option maxHeartbeats 8000000
theorem X_fc4 {p : Prop} (e : p := by intro KZ hZ; simp -implicitDefEqProofs (disch := first | omega | (simp only [go_sem, lA, lD, lT, LI3_len, hKl] <;> omega) | decide) only [go_sem, ↓reduceIte, Nat.reduceEqDiff, reduceCtorEq, Nat.reduceLT, Nat.reduceBEq, Nat.reduceAdd, eq_self, decide_true, decide_false, not_true_eq_false, not_false_eq_true, h19, rep3s, hy]; with_reducible exact hZ) : p := e
theorem Y_fc4 {p : Prop} (e : p := by intro KZ hZ; simp -implicitDefEqProofs (disch := first | omega | (simp only [go_sem, lA, lD, lT, LI3_len, hKl] <;> omega) | decide) only [go_sem, ↓reduceIte, Nat.reduceEqDiff, reduceCtorEq, Nat.reduceLT, Nat.reduceBEq, Nat.reduceAdd, eq_self, decide_true, decide_false, not_true_eq_false, not_false_eq_true, h19, rep3s, hy]; with_reducible refine And.intro ?_ hZ; first | exact rfl | decide) : p := e
theorem F_fc4 {p : Prop} (e : p := by simp -implicitDefEqProofs (disch := first | omega | (simp only [go_sem, lA, lD, lT, LI3_len, hKl] <;> omega) | decide) only [go_sem, ↓reduceIte, Nat.reduceEqDiff, reduceCtorEq]; all_goals (rfl)) : p := e
theorem fc4 {gl : Nat → C} {M : Nat} {pu : Nat → List C → Option C}  (hcx : CxOK (cxP gl M pu))  (h10 : ∀ l : List Int, LI l → pu 10 [sl iC .no l] = some (sl eC (.own 2) (lvsT l))) (h11 : ∀ r : List Leaf, r.length < 9223372036854775808 → (∀ i, i < r.length → (gt r i).1.length < 9223372036854775808 ∧ (gt r i).2.length < 9223372036854775808) → pu 11 [sl eC .no r] = some (sl eC (.own 2) (rawT r))) (h13 : ∀ l : List Leaf, l.length ≤ 1000000 → pu 13 [sl eC .no l] = some (sl eC (.own 2) l)) (h19 : pu 19 [] = some (.val (.bool true))) (h20 : ∀ (l : List Leaf) (n : Int), l.length ≤ 1000000 → (∀ i, i < l.length → (gt l i).1.length < 1000000) → (-9223372036854775808 ≤ n ∧ n ≤ 9223372036854775807) → pu 20 [sl eC .no l, .val (.int .i64 n)] = some (.val (str (kyT l n)))) (h21 : ∀ (s : List UInt8) (n : Nat), s.length < 9223372036854775808 → n ≤ 1000000 → pu 21 [.val (str s), .val (nI n)] = some (.val (str (shT s n)))) (h22 : ∀ (l : List Leaf) (k : List UInt8), LB l → pu 22 [sl eC .no l, .val (str k)] = some (.tup [.agg [.val (nI (prvT l k).1.1), .val (nI (prvT l k).1.2.1), sl eC .no (prvT l k).1.2.2.1, sl dC .no (prvT l k).1.2.2.2], .val (nI (prvT l k).2)])) (h23 : ∀ (l : List Leaf) (k : List UInt8), LB l → pu 23 [sl eC .no l, .val (str k)] = some (.tup [.agg [.val (nI (prvT l k).1.1), .val (nI (prvT l k).1.2.1), sl eC .no (prvT l k).1.2.2.1, sl dC .no (prvT l k).1.2.2.2], .val (nI (prvT l k).2)])) (h24 : ∀ (l : List Leaf) (x y : List UInt8), LB l → pu 24 [sl eC .no l, .val (str x), .val (str y)] = some (.tup [.agg [.val (nI (rngT l x y).1.1), .val (nI (rngT l x y).1.2.1), sl eC .no (rngT l x y).1.2.2.1, sl dC .no (rngT l x y).1.2.2.2], .val (nI (rngT l x y).2)])) (h25 : ∀ (l : List Leaf) (x y : List UInt8), LB l → pu 25 [sl eC .no l, .val (str x), .val (str y)] = some (.tup [.agg [.val (nI (rngT l x y).1.1), .val (nI (rngT l x y).1.2.1), sl eC .no (rngT l x y).1.2.2.1, sl dC .no (rngT l x y).1.2.2.2], .val (nI (rngT l x y).2)])) (h26 : ∀ (f z : Int) (l : List Leaf) (S : List Dig) (f' z' : Int) (l' : List Leaf) (S' : List Dig), l.length ≤ 1000000 → l'.length ≤ 1000000 → S.length ≤ 1000000 → pu 26 [.agg [.val (.int .i64 f), .val (.int .i64 z), sl eC .no l, sl dC .no S], .agg [.val (.int .i64 f'), .val (.int .i64 z'), sl eC .no l', sl dC .no S']] = some (.val (.bool (decide (f = f' ∧ z = z' ∧ l = l' ∧ S = S'))))) (h27 : ∀ (f z : Int) (l : List Leaf) (S : List Dig), l.length ≤ 1000000 → pu 27 [.agg [.val (.int .i64 f), .val (.int .i64 z), sl eC .no l, sl dC .no S]] = some (.agg [.val (.int .i64 f), .val (.int .i64 z), sl eC .no l, sl dC .no S])) (l : List Int) (raw : List Leaf) (k m : Int) (name : List UInt8) (hl : LI l) (hrl : raw.length < 9223372036854775808) (hrs : ∀ i, i < raw.length → (gt raw i).1.length < 9223372036854775808 ∧ (gt raw i).2.length < 9223372036854775808) (hk : -9223372036854775808 ≤ k ∧ k ≤ 9223372036854775807) (hm : -9223372036854775808 ≤ m ∧ m ≤ 9223372036854775807) (hn : name.length < 9223372036854775808) : FC Tryd.prog gl 4 [sl iC .no l, sl eC .no raw, .val (.int .i64 k), .val (.int .i64 m), .val (str name)] [] (.val (.bool true)) [] := by
 replace hcx := hcx.reN (M := 132)
 refine FC.ofA (cx := cxP gl 132 pu) (rs := [.tmp 10]) rfl Tryd.func4 rfl rfl rfl (by simp only [List.length_cons, List.length_nil]; decide) (by simp only [go_sem]) ?_
 simp only [ini, go_sem]
 have hy := True.intro
 have e10 := h10 l hl
 have e11 := h11 raw hrl hrs
 have hKl := True.intro
 refine Tr.w hcx [] _ [] rfl rfl rfl ?_ X_fc4
 have hy := And.intro @e10 @e11
 refine Tr.w hcx [1000029] _ [] rfl rfl rfl ?_ X_fc4
 refine Tr.seqK fun K1 hK1 => ?_
 refine Tr.live [(2, .val (.int .i64 k)), (3, .val (.int .i64 m)), (4, .val (str name)), (11, sl (lC eC) .full (LI3 l raw))] (by simp only [Le_cons, Le_nil, ↓A_cons, ↓reduceIte, Nat.reduceEqDiff, and_true]; exact ⟨CLe.refl _, CLe.refl _, CLe.refl _, CLe_lz rfl⟩) ?_
 have hy := True.intro
 refine Tr.w hcx [] _ [] rfl rfl rfl ?_ X_fc4
 refine Tr.k [2, 3, 4, 11, 12] ?_
 refine Tr.blk ?_
 refine Tr.loopM hcx (α := Nat) (fun a => [(2, ?v2_1), (3, ?v3_1), (4, ?v4_1), (11, ?v11_1), (12, .val (nI a))]) (fun a => []) (fun a => a ≤ 3) (fun a => 3 - a) (0) (Nat.zero_le _) ?le_1 ?hh_1 ?bd_1
 case hh_1 => exact rfl
 case le_1 => exact LT
 rintro i hi
 refine Tr.seqK fun K2 hK2 => ?_
 refine Tr.w hcx [] _ [] rfl rfl rfl ?_ X_fc4
 refine Tr.cD rfl (fun hc33 => ?_) (fun hc33 => ?_)
 ·
  have hi3 : i < 3 := hc33
  have hok := LI3_ok l raw i hi3
  obtain ⟨X, hX⟩ : ∃ X, gt (LI3 l raw) i = X := ⟨_, rfl⟩
  rw [hX] at hok
  have hXl := hok.1
  have lbX : LB X := LB.ofSmall ⟨by omega, fun j hj => by have := hok.2 j hj; omega⟩
  have e20a := h20 X k (by omega) (fun j hj => by have := hok.2 j hj; omega) hk
  have e20b := h20 X m (by omega) (fun j hj => by have := hok.2 j hj; omega) hm
  have e21 := h21 name 30 hn (by omega)
  have e13 := h13 X (by omega)
  obtain ⟨A, hA⟩ : ∃ A, kyT X k = A := ⟨_, rfl⟩
  rw [hA] at e20a
  obtain ⟨KS, hKS⟩ : ∃ KS, [A, kyT X m, shT name 30] = KS := ⟨_, rfl⟩
  have hKl : KS.length = 3 := by rw [← hKS]; rfl
  refine Tr.skip ?_
  refine hK2 _ ?_
  refine Tr.seqK fun K3 hK3 => ?_
  refine Tr.blk ?_
  have hy := And.intro @hX @e20a
  refine Tr.w hcx [1000041] _ [] rfl rfl rfl ?_ X_fc4
  have hy := And.intro @hX @e20b
  refine Tr.w hcx [1000047] _ [] rfl rfl rfl ?_ X_fc4
  refine Tr.k [2, 3, 4, 11, 12, 13, 14] ?_
  have hy := And.intro @e21 @hKS
  refine Tr.w hcx [1000052] _ [] rfl rfl rfl ?_ X_fc4
  have hy := True.intro
  refine Tr.w hcx [] _ [] rfl rfl rfl ?_ X_fc4
  refine Tr.k [2, 3, 4, 11, 12, 13, 15, 16] ?_
  refine Tr.blk ?_
  refine Tr.loopM hcx (α := Nat) (fun a => [(2, ?v2_2), (3, ?v3_2), (4, ?v4_2), (11, ?v11_2), (12, ?v12_2), (13, ?v13_2), (15, ?v15_2), (16, .val (nI a))]) (fun a => []) (fun a => a ≤ 3) (fun a => 3 - a) (0) (Nat.zero_le _) ?le_2 ?hh_2 ?bd_2
  case hh_2 => exact rfl
  case le_2 => exact LT
  rintro j hj
  refine Tr.seqK fun K4 hK4 => ?_
  refine Tr.w hcx [] _ [] rfl rfl rfl ?_ X_fc4
  refine Tr.cD rfl (fun hc54 => ?_) (fun hc54 => ?_)
  ·
   obtain ⟨Y, hY⟩ : ∃ Y, gt KS j = Y := ⟨_, rfl⟩
   have e22 := h22 X Y lbX
   have e23 := h23 X Y lbX
   have e24 := h24 X A Y lbX
   have e25 := h25 X A Y lbX
   have bP := prv_bd X Y
   have bQ := rng_bd X A Y
   generalize prvT X Y = PE at e22 e23 bP
   generalize rngT X A Y = QE at e24 e25 bQ
   obtain ⟨P, pe⟩ := PE
   obtain ⟨Q, qe⟩ := QE
   simp only at e22 e23 e24 e25 bP bQ
   have e27p : pu 27 [.agg [.val (nI P.1), .val (nI P.2.1), sl eC .no P.2.2.1, sl dC .no P.2.2.2]] = some (.agg [.val (nI P.1), .val (nI P.2.1), sl eC .no P.2.2.1, sl dC .no P.2.2.2]) := h27 ((P.1 : Nat) : Int) ((P.2.1 : Nat) : Int) P.2.2.1 P.2.2.2 (by omega)
   have e27q : pu 27 [.agg [.val (nI Q.1), .val (nI Q.2.1), sl eC .no Q.2.2.1, sl dC .no Q.2.2.2]] = some (.agg [.val (nI Q.1), .val (nI Q.2.1), sl eC .no Q.2.2.1, sl dC .no Q.2.2.2]) := h27 ((Q.1 : Nat) : Int) ((Q.2.1 : Nat) : Int) Q.2.2.1 Q.2.2.2 (by omega)
   have e26p : pu 26 [.agg [.val (nI P.1), .val (nI P.2.1), sl eC .no P.2.2.1, sl dC .no P.2.2.2], .agg [.val (nI P.1), .val (nI P.2.1), sl eC .no P.2.2.1, sl dC .no P.2.2.2]] = some (.val (.bool true)) := (h26 ((P.1 : Nat) : Int) ((P.2.1 : Nat) : Int) P.2.2.1 P.2.2.2 ((P.1 : Nat) : Int) ((P.2.1 : Nat) : Int) P.2.2.1 P.2.2.2 (by omega) (by omega) (by omega)).trans (by simp)
   have e26q : pu 26 [.agg [.val (nI Q.1), .val (nI Q.2.1), sl eC .no Q.2.2.1, sl dC .no Q.2.2.2], .agg [.val (nI Q.1), .val (nI Q.2.1), sl eC .no Q.2.2.1, sl dC .no Q.2.2.2]] = some (.val (.bool true)) := (h26 ((Q.1 : Nat) : Int) ((Q.2.1 : Nat) : Int) Q.2.2.1 Q.2.2.2 ((Q.1 : Nat) : Int) ((Q.2.1 : Nat) : Int) Q.2.2.1 Q.2.2.2 (by omega) (by omega) (by omega)).trans (by simp)
   refine Tr.skip ?_
   refine hK4 _ ?_
   refine Tr.seqK fun K5 hK5 => ?_
   refine Tr.blk ?_
   have hy := And.intro @hX (And.intro @hY (And.intro @e13 @e22))
   refine Tr.wD hcx hMO [1000069] _ [none] rfl rfl rfl rfl ?_ Y_fc4
   refine Tr.k [2, 3, 4, 11, 12, 13, 15, 16, 17, 18] ?_
   have hy := And.intro @hX (And.intro @hY @e23)
   refine Tr.wD hcx hMO [1000081] _ [none] rfl rfl rfl rfl ?_ Y_fc4
   refine Tr.k [2, 3, 4, 11, 12, 13, 15, 16, 17, 18, 19, 20] ?_
   have hy := And.intro @hX (And.intro @hY (And.intro @e13 @e24))
   refine Tr.wD hcx hMO [1000095] _ [none] rfl rfl rfl rfl ?_ Y_fc4
   refine Tr.k [2, 3, 4, 11, 12, 13, 15, 16, 17, 18, 19, 20, 21, 22] ?_
   have hy := And.intro @hX (And.intro @hY @e25)
   refine Tr.wD hcx hMO [1000108] _ [none] rfl rfl rfl rfl ?_ Y_fc4
   refine Tr.k [2, 3, 4, 11, 12, 13, 15, 16, 17, 18, 19, 20, 21, 22, 23, 24] ?_
   have hy := And.intro @e27p (And.intro @e27q (And.intro @e26p @e26q))
   refine Tr.wD hcx hMO [] [some 109, some 110, some 111, some 112, some 113, some 114, some 115, some 116, some 117, some 118, some 119, some 120, some 121, some 122, some 123, some 124, some 125, some 126, some 127, some 128, some 129, some 130] [] rfl rfl rfl rfl ?_ Y_fc4
   refine Tr.k [2, 3, 4, 11, 12, 13, 15, 16, 130] ?_
   refine Tr.cF rfl ?_
   refine Tr.skip ?_
   refine hK5 _ ?_
   have hy := True.intro
   refine Tr.v hcx [1000056] _ [] rfl rfl rfl ?_ X_fc4
   first
   | ((refine ⟨[], ⟨by decide, by decide, by decide⟩, j + 1, ⟨(by omega), O1⟩, ?_, by simp only [mvH_eq, mvHa_nil, mvHa_cons, hget_0, hget_S, Option.map_some, Option.map_none, mvCs_cl, mvCs_f, mvCs_nil, mvCs_cons, mvC_val, mvC_top, mvC_sl, mvC_gv, mvC_sv, mvC_bp, mvC_agg, mvC_kp, mvGv_some, mvGv_none, mvSv_some, mvSv_none, mvBp_some, mvBp_none, loc_nil, loc_cons, ↓reduceIte, Nat.reduceEqDiff, reduceCtorEq, Nat.reduceAdd, Nat.zero_add, Nat.one_ne_zero, Nat.zero_ne_one, mvC_fn, mvC_bt, mvBt_some, mvBt_none, mvC_mp, mvMp_some, mvMp_none] <;> rfl⟩); (simp only [Le_nil, Le_cons, ↓A_cons, CLe_refl, CLe_top, CLe_full, CLe_nil, CLe_own, and_true, true_and, mvH_eq, mvHa_nil, mvHa_cons, hget_0, hget_S, Option.map_some, Option.map_none, mvCs_cl, mvCs_f, mvCs_nil, mvCs_cons, mvC_val, mvC_top, mvC_sl, mvC_gv, mvC_sv, mvC_bp, mvC_agg, mvC_kp, mvGv_some, mvGv_none, mvSv_some, mvSv_none, mvBp_some, mvBp_none, loc_nil, loc_cons, ↓reduceIte, Nat.reduceEqDiff, reduceCtorEq, Nat.reduceAdd, Nat.zero_add, Nat.one_ne_zero, Nat.zero_ne_one, mvC_fn, mvC_bt, mvBt_some, mvBt_none, mvC_mp, mvMp_some, mvMp_none]; all_goals (repeat' first | exact CLe.refl _ | exact True.intro | (with_reducible refine And.intro ?_ ?_))); (all_goals (rw [mvC_lsl]; exact CLe.refl _)); (done))
  refine Tr.exit ?_
  refine hK3 _ ?_
  refine Tr.v hcx [1000035] _ [] rfl rfl rfl ?_ X_fc4
  first
  | ((refine ⟨[], ⟨by decide, by decide, by decide⟩, i + 1, ⟨(by omega), O1⟩, ?_, by simp only [mvH_eq, mvHa_nil, mvHa_cons, hget_0, hget_S, Option.map_some, Option.map_none, mvCs_cl, mvCs_f, mvCs_nil, mvCs_cons, mvC_val, mvC_top, mvC_sl, mvC_gv, mvC_sv, mvC_bp, mvC_agg, mvC_kp, mvGv_some, mvGv_none, mvSv_some, mvSv_none, mvBp_some, mvBp_none, loc_nil, loc_cons, ↓reduceIte, Nat.reduceEqDiff, reduceCtorEq, Nat.reduceAdd, Nat.zero_add, Nat.one_ne_zero, Nat.zero_ne_one, mvC_fn, mvC_bt, mvBt_some, mvBt_none, mvC_mp, mvMp_some, mvMp_none] <;> rfl⟩); (simp only [Le_nil, Le_cons, ↓A_cons, CLe_refl, CLe_top, CLe_full, CLe_nil, CLe_own, and_true, true_and, mvH_eq, mvHa_nil, mvHa_cons, hget_0, hget_S, Option.map_some, Option.map_none, mvCs_cl, mvCs_f, mvCs_nil, mvCs_cons, mvC_val, mvC_top, mvC_sl, mvC_gv, mvC_sv, mvC_bp, mvC_agg, mvC_kp, mvGv_some, mvGv_none, mvSv_some, mvSv_none, mvBp_some, mvBp_none, loc_nil, loc_cons, ↓reduceIte, Nat.reduceEqDiff, reduceCtorEq, Nat.reduceAdd, Nat.zero_add, Nat.one_ne_zero, Nat.zero_ne_one, mvC_fn, mvC_bt, mvBt_some, mvBt_none, mvC_mp, mvMp_some, mvMp_none]; all_goals (repeat' first | exact CLe.refl _ | exact True.intro | (with_reducible refine And.intro ?_ ?_))); (all_goals (rw [mvC_lsl]; exact CLe.refl _)); (done))
 refine Tr.exit ?_
 refine hK1 _ ?_
 refine Tr.w hcx [1000131] _ [] rfl rfl rfl ?_ X_fc4
 exact Tr.ret F_fc4
end Go.Sx
