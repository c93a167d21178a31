/-
  Package sign: contracts of package wire. And what follows.
-/
import Derived.Test.YthjamgmeehjfmaaDoorPap
set_option linter.unusedSimpArgs false
set_option linter.unusedVariables false
namespace Go.Sx
open Go.RowKit Go.Proofs
set_option maxRecDepth 100000
set_option maxHeartbeats 8000000
theorem X_fc41 {p : Prop} (e : p := by intro KZ hZ; simp -implicitDefEqProofs (disch := first | omega | (simp only [go_sem, lA, lD, lT, hb1] <;> omega) | decide) only [go_sem, ↓reduceIte, Nat.reduceEqDiff, reduceCtorEq, Nat.reduceLT, Nat.reduceBEq, Nat.reduceAdd, h30, h30n, h58, h119, h136, hy]; exact hZ) : p := e
theorem Y_fc41 {p : Prop} (e : p := by intro KZ hZ; simp -implicitDefEqProofs (disch := first | omega | (simp only [go_sem, lA, lD, lT, hb1] <;> omega) | decide) only [go_sem, ↓reduceIte, Nat.reduceEqDiff, reduceCtorEq, Nat.reduceLT, Nat.reduceBEq, Nat.reduceAdd, h30, h30n, h58, h119, h136, hy]; refine And.intro ?_ hZ; exact rfl) : p := e
theorem F_fc41 {p : Prop} (e : p := by simp -implicitDefEqProofs (disch := first | omega | (simp only [go_sem, lA, lD, lT, hb1] <;> omega) | decide) only [go_sem, ↓reduceIte, Nat.reduceEqDiff, reduceCtorEq]; all_goals (first | rfl | (rw [rg1 hbe hk (by omega)]; rfl) | (rw [rg2 hbe hk (by omega) hc34]; rfl) | (rw [rg3 hbe hk h8 hc34 i hc37 hc50]; rfl) | (rw [rg4n hbe hk h8 hc34 hc57 hc67]; rfl) | (rw [rg4p hbe hk h8 hc34 hc57 hc67]; rfl) | (rw [rg5 hbe hk h8 hc34 hc57 hac (Classical.not_not.1 hc67)]; try rfl) | (rw [rg6 hbe hk h8 hc34 hc57 hac (Classical.not_not.1 hc67)]; try rfl))) : p := e
theorem fc41 {gl : Nat → C} {M : Nat} {pu : Nat → List C → Option C}  (hcx : CxOK (cxP gl M pu))  (h30 : ∀ n : Int, -9223372036854775808 ≤ n ∧ n ≤ 9223372036854775807 → pu 30 [.val (.int .i64 n)] = some (sl bC (.own 1) (wint n))) (h58 : ∀ x y : List UInt8, x.length < 9223372036854775807 → pu 58 [sl bC .no x, sl bC .no y] = some (.val (.bool (decide (x = y))))) (b : List UInt8) (hb : b.length < 9223372036854775807) : FC Tryd.prog gl 41 [sl bC .no b] [] (.tup [.val (.int .i64 (getI b).1), .val (nI (getI b).2.1), .val (nI (getI b).2.2)]) [] := by
 replace hcx := hcx.reN (M := 71)
 refine FC.ofA (cx := cxP gl 71 pu) (rs := [.tmp 2, .tmp 3, .tmp 4]) rfl Tryd.func41 rfl rfl rfl (by simp only [List.length_cons, List.length_nil]; decide) (by simp only [go_sem]) ?_
 simp only [ini, go_sem]
 have h119 := True.intro
 have h136 := True.intro
 have hy := True.intro
 have hb1 := True.intro
 have h30n : ∀ m : Nat, m < 9223372036854775808 → pu 30 [.val (nI m)] = some (sl bC (.own 1) (wint m)) := fun m h => h30 m (by omega)
 refine Tr.w hcx [] _ [] rfl rfl rfl ?_ X_fc41
 refine Tr.seqK fun K1 hK1 => ?_
 refine Tr.w hcx [] _ [] rfl rfl rfl ?_ X_fc41
 refine Tr.cD rfl (fun hc13 => ?_) (fun hc13 => ?_)
 ·
  obtain rfl : b = [] := List.length_eq_zero_iff.1 hc13
  refine Tr.w hcx [] _ [] rfl rfl rfl ?_ X_fc41
  exact Tr.ret F_fc41
 obtain ⟨x, r, hbe⟩ : ∃ x r, b = x :: r := by
   cases b with
   | nil => exact absurd rfl hc13
   | cons x r => exact ⟨x, r, rfl⟩
 obtain ⟨k, hk⟩ : ∃ k, kOf x = k := ⟨_, rfl⟩
 have hkc := kOf_cases x
 rw [hk] at hkc
 have hlen : b.length = r.length + 1 := by rw [hbe]; rfl
 have hx0 : gt b 0 = x := by rw [hbe]; rfl
 have hx256 := x.toNat_lt
 refine Tr.skip ?_
 refine hK1 _ ?_
 have hy := @hx0
 refine Tr.w hcx [1000017] _ [] rfl rfl rfl ?_ X_fc41
 refine Tr.seqK fun K2 hK2 => ?_
 by_cases h119 : x.toNat < 119
 ·
  have hy := True.intro
  refine Tr.w hcx [] [some 18, some 19, some 20, some 21, some 22, some 23] [] rfl rfl rfl ?_ X_fc41
  refine Tr.cT rfl ?_
  refine Tr.w hcx [] _ [] rfl rfl rfl ?_ X_fc41
  exact Tr.ret F_fc41
 by_cases h136 : 136 < x.toNat
 ·
  have hy := True.intro
  refine Tr.w hcx [] [some 18, some 19, some 20, some 21, some 22, some 23] [] rfl rfl rfl ?_ X_fc41
  refine Tr.cT rfl ?_
  refine Tr.w hcx [] _ [] rfl rfl rfl ?_ X_fc41
  exact Tr.ret F_fc41
 have hy := True.intro
 refine Tr.w hcx [] [some 18, some 19, some 20, some 21, some 22, some 23] [] rfl rfl rfl ?_ X_fc41
 refine Tr.cF rfl ?_
 refine Tr.skip ?_
 refine hK2 _ ?_
 have hy := @n_subG
 refine Tr.w hcx [1000025] _ [] rfl rfl rfl ?_ X_fc41
 refine Tr.seqJ (α := Unit) (fun a => [(0, ?v0_1), (5, ?v5_1), (6, .val (nI k))]) (fun a => []) (fun a => True) ?ja_1 ?jb_1
 case ja_1 =>
  have hy := True.intro
  refine Tr.w hcx [] _ [] rfl rfl rfl ?_ X_fc41
  refine Tr.cD rfl (fun hc27 => ?_) (fun hc27 => ?_)
  ·
   refine Tr.v hcx [1000029] _ [] rfl rfl rfl ?_ X_fc41
   refine ⟨(), tI, ?_, rfl⟩
   (simp only [Le_nil, Le_cons, ↓A_cons, ↓reduceIte, Nat.reduceEqDiff, CLe_refl, CLe_top, CLe_full, CLe_nil, CLe_own, and_true, true_and]; all_goals (repeat' first | exact CLe.refl _ | exact True.intro | (refine CLe_sln ?_; first | rfl | (simp only [List.take_zero]; done)) | exact CLe_nI (by omega) | exact CLe_int (by omega) | exact CLe_inI (by omega) | exact CLe_nIi (by omega) | with_reducible apply And.intro))
   all_goals (refine CLe_val (congrArg (Value.int .i64) ?_); omega)
  refine Tr.skip ?_
  refine ⟨(), tI, ?_, rfl⟩
  (simp only [Le_nil, Le_cons, ↓A_cons, ↓reduceIte, Nat.reduceEqDiff, CLe_refl, CLe_top, CLe_full, CLe_nil, CLe_own, and_true, true_and]; all_goals (repeat' first | exact CLe.refl _ | exact True.intro | (refine CLe_sln ?_; first | rfl | (simp only [List.take_zero]; done)) | exact CLe_nI (by omega) | exact CLe_int (by omega) | exact CLe_inI (by omega) | exact CLe_nIi (by omega) | with_reducible apply And.intro))
  all_goals (refine CLe_val (congrArg (Value.int .i64) ?_); omega)
 rintro a ha
 refine Tr.seqK fun K3 hK3 => ?_
 have hy := True.intro
 refine Tr.w hcx [] _ [] rfl rfl rfl ?_ X_fc41
 refine Tr.cD rfl (fun hc34 => ?_) (fun hc34 => ?_)
 ·
  refine Tr.w hcx [] _ [] rfl rfl rfl ?_ X_fc41
  exact Tr.ret F_fc41
 have h8 : k ≤ 8 := by omega
 have htk : (r.take k).take k = r.take k := by rw [List.take_take, Nat.min_self]
 refine Tr.skip ?_
 refine hK3 _ ?_
 refine Tr.w hcx [] _ [] rfl rfl rfl ?_ X_fc41
 refine Tr.seqK fun K4 hK4 => ?_
 refine Tr.w hcx [] _ [] rfl rfl rfl ?_ X_fc41
 refine Tr.k [0, 5, 6, 7, 8] ?_
 refine Tr.blk ?_
 refine Tr.loopI (α := Nat) (fun a => [(0, ?v0_2), (5, ?v5_2), (6, ?v6_2), (7, .val (nI (accF (flipOf x) ((r.take k).take a)))), (8, .val (nI (a + 1)))]) (fun a => ?h_2) (fun a => a ≤ k ∧ accF (flipOf x) ((r.take k).take a) < 9223372036854775808) (fun a => k - a) (0) ?_ ?le_2 ?hh_2 ?bd_2
 case hh_2 => exact rfl
 case le_2 => exact LT
 · exact ⟨by omega, by simp [accF]⟩
 rintro i ⟨hi, hac⟩
 have hcl := (gt (r.take k) i).toNat_lt
 have hcl2 := (gt (r.take k) i ^^^ flipOf x).toNat_lt
 refine Tr.seqK fun K5 hK5 => ?_
 refine Tr.w hcx [] _ [] rfl rfl rfl ?_ X_fc41
 refine Tr.cD rfl (fun hc37 => ?_) (fun hc37 => ?_)
 ·
  have hbi := (rtake hbe hk h8 hc34 i hc37).1
  refine Tr.skip ?_
  refine hK5 _ ?_
  refine Tr.seqK fun K6 hK6 => ?_
  refine Tr.blk ?_
  have hy := @hbi
  refine Tr.w hcx [1000044] _ [] rfl rfl rfl ?_ X_fc41
  refine Tr.seqJ (α := Unit) (fun a => [(0, ?v0_3), (5, ?v5_3), (6, ?v6_3), (7, ?v7_3), (8, ?v8_3), (9, .val (nI (gt (r.take k) i ^^^ flipOf x).toNat))]) (fun a => []) (fun a => True) ?ja_3 ?jb_3
  case ja_3 =>
   have hy := True.intro
   refine Tr.w hcx [] _ [] rfl rfl rfl ?_ X_fc41
   refine Tr.cD rfl (fun hc46 => ?_) (fun hc46 => ?_)
   ·
    refine Tr.v hcx [1000048] _ [] rfl rfl rfl ?_ X_fc41
    refine ⟨(), tI, ?_, rfl⟩
    (simp only [Le_nil, Le_cons, ↓A_cons, ↓reduceIte, Nat.reduceEqDiff, CLe_refl, CLe_top, CLe_full, CLe_nil, CLe_own, and_true, true_and]; all_goals (repeat' first | exact CLe.refl _ | exact True.intro | (refine CLe_sln ?_; first | rfl | (simp only [List.take_zero]; done)) | exact CLe_nI (by omega) | exact CLe_int (by omega) | exact CLe_inI (by omega) | exact CLe_nIi (by omega) | with_reducible apply And.intro))
    all_goals (refine CLe_val (congrArg nI ?_); rw [xflip]; first | rw [if_pos hc46] | rw [if_neg hc46])
   refine Tr.skip ?_
   refine ⟨(), tI, ?_, rfl⟩
   (simp only [Le_nil, Le_cons, ↓A_cons, ↓reduceIte, Nat.reduceEqDiff, CLe_refl, CLe_top, CLe_full, CLe_nil, CLe_own, and_true, true_and]; all_goals (repeat' first | exact CLe.refl _ | exact True.intro | (refine CLe_sln ?_; first | rfl | (simp only [List.take_zero]; done)) | exact CLe_nI (by omega) | exact CLe_int (by omega) | exact CLe_inI (by omega) | exact CLe_nIi (by omega) | with_reducible apply And.intro))
   all_goals (refine CLe_val (congrArg nI ?_); rw [xflip]; first | rw [if_pos hc46] | rw [if_neg hc46])
  rintro a ha
  refine Tr.seqK fun K7 hK7 => ?_
  have hy := True.intro
  refine Tr.w hcx [] _ [] rfl rfl rfl ?_ X_fc41
  refine Tr.cD rfl (fun hc50 => ?_) (fun hc50 => ?_)
  ·
   refine Tr.w hcx [] _ [] rfl rfl rfl ?_ X_fc41
   exact Tr.ret F_fc41
  refine Tr.skip ?_
  refine hK7 _ ?_
  refine Tr.v hcx [1000054] _ [] rfl rfl rfl ?_ X_fc41
  refine hK6 _ ?_
  refine Tr.v hcx [1000039] _ [] rfl rfl rfl ?_ X_fc41
  refine ⟨i + 1, ⟨⟨by omega, by rw [← raccN hbe hk h8 hc34 i hc37]; omega⟩, O1⟩, ?_, rfl⟩
  (simp only [Le_nil, Le_cons, ↓A_cons, ↓reduceIte, Nat.reduceEqDiff, CLe_refl, CLe_top, CLe_full, CLe_nil, CLe_own, and_true, true_and]; all_goals (repeat' first | exact CLe.refl _ | exact True.intro | (refine CLe_sln ?_; first | rfl | (simp only [List.take_zero]; done)) | exact CLe_nI (by omega) | exact CLe_int (by omega) | exact CLe_inI (by omega) | exact CLe_nIi (by omega) | with_reducible apply And.intro))
  all_goals (exact CLe_val (congrArg nI (raccN hbe hk h8 hc34 i hc37)))
 obtain rfl : k = i := by omega
 rw [htk] at hac
 have hw1 := wint_len (-1 - (accF (flipOf x) (r.take k) : Int)) (by omega)
 have hw2 := wint_len (accF (flipOf x) (r.take k)) (by omega)
 refine Tr.exit ?_
 refine hK4 _ ?_
 have hy := @htk
 refine Tr.w hcx [1000055] _ [] rfl rfl rfl ?_ X_fc41
 refine Tr.seqK fun K8 hK8 => ?_
 have hy := @htk
 refine Tr.w hcx [] _ [] rfl rfl rfl ?_ X_fc41
 refine Tr.cD rfl (fun hc57 => ?_) (fun hc57 => ?_)
 ·
  have hy := @htk
  refine Tr.v hcx [1000059] _ [] rfl rfl rfl ?_ X_fc41
  refine hK8 _ ?_
  refine Tr.seqK fun K9 hK9 => ?_
  have hy := @htk
  refine Tr.wD hcx hMO [] _ [] rfl rfl rfl rfl ?_ Y_fc41
  refine Tr.cD rfl (fun hc67 => ?_) (fun hc67 => ?_)
  ·
   have hy := True.intro
   refine Tr.w hcx [] _ [] rfl rfl rfl ?_ X_fc41
   exact Tr.ret F_fc41
  refine Tr.skip ?_
  refine hK9 _ ?_
  refine Tr.k [6, 10] ?_
  have hy := @htk
  refine Tr.w hcx [1000068, 1000070] _ [] rfl rfl rfl ?_ X_fc41
  exact Tr.ret F_fc41
 refine Tr.skip ?_
 refine hK8 _ ?_
 refine Tr.seqK fun K10 hK10 => ?_
 have hy := @htk
 refine Tr.wD hcx hMO [] _ [] rfl rfl rfl rfl ?_ Y_fc41
 refine Tr.cD rfl (fun hc67 => ?_) (fun hc67 => ?_)
 ·
  have hy := True.intro
  refine Tr.w hcx [] _ [] rfl rfl rfl ?_ X_fc41
  exact Tr.ret F_fc41
 refine Tr.skip ?_
 refine hK10 _ ?_
 have hy := @htk
 refine Tr.w hcx [1000068, 1000070] _ [] rfl rfl rfl ?_ X_fc41
 exact Tr.ret F_fc41
end Go.Sx
namespace Go.Sx
open Go.RowKit Go.Proofs
def ofT (tag : Int) (parts : List (List UInt8)) : List UInt8 := (sha (inp tag parts)).take 16
theorem ofT_len (tag : Int) (parts : List (List UInt8)) : (ofT tag parts).length = 16 := by unfold ofT; rw [List.length_take, sha_len]; rfl
def wN (l : List Nat) : List UInt8 := wInts (l.map fun n => ((n : Nat) : Int))
theorem wN_len (l : List Nat) (h : ∀ x ∈ l, x < 9223372036854775808) (hl : l.length ≤ 3) : (wN l).length ≤ 36 := by
  have hr : ∀ x ∈ l.map (fun n => ((n : Nat) : Int)), -9223372036854775808 ≤ x ∧ x ≤ 9223372036854775807 := fun x hx => by
    obtain ⟨n, hn, rfl⟩ := List.mem_map.1 hx
    have := h n hn; omega
  have h1 := ints_le (l.map fun n => ((n : Nat) : Int)) hr (l.map fun n => ((n : Nat) : Int)).length (Nat.le_refl _)
  rw [List.take_length, List.length_map] at h1
  have h2 := wintn_len l.length (by omega)
  unfold wN wInts
  rw [List.length_append, List.length_map]; omega
theorem inp_len2 (tag : Int) (a b : List UInt8) (ha : a.length < 1000000) (hb : b.length < 1000000) : (inp tag [a, b]).length < 1099511627776 := by
  have h1 := wb_len a (by omega)
  have h2 := wb_len b (by omega)
  unfold inp
  simp only [List.flatMap_cons, List.flatMap_nil, List.append_nil, List.length_cons, List.length_append]; omega
theorem inp_len1 (tag : Int) (a : List UInt8) (ha : a.length < 1000000) : (inp tag [a]).length < 1099511627776 := by
  have h1 := wb_len a (by omega)
  unfold inp
  simp only [List.flatMap_cons, List.flatMap_nil, List.append_nil, List.length_cons]; omega
theorem inp_len3 (tag : Int) (a b c : List UInt8) (ha : a.length < 1000000) (hb : b.length < 1000000) (hc : c.length < 2000000) : (inp tag [a, b, c]).length < 1099511627776 := by
  have h1 := wb_len a (by omega)
  have h2 := wb_len b (by omega)
  have h3 := wb_len c (by omega)
  unfold inp
  simp only [List.flatMap_cons, List.flatMap_nil, List.append_nil, List.length_cons, List.length_append]; omega
/-- The value of a chain some steps further. -/
def advT (i c f : Nat) (v : List UInt8) : Nat → List UInt8
  | 0 => v
  | n + 1 => ofT 1 [wN [i, c, f + n], advT i c f v n]
theorem advT_len (i c f : Nat) {v : List UInt8} (h : v.length = 16) : ∀ n, (advT i c f v n).length = 16
  | 0 => h
  | n + 1 => ofT_len _ _
theorem advT_S (i c f t : Nat) (v : List UInt8) (h : f ≤ t) : ofT 1 [wN [i, c, t], advT i c f v (t - f)] = advT i c f v (t + 1 - f) := by
  rw [show t + 1 - f = (t - f) + 1 by omega, advT, show f + (t - f) = t by omega]
def chn5 : List UInt8 := [99, 104, 97, 105, 110]
def staT (seed : List UInt8) (i c : Nat) : List UInt8 := (hmac seed (chn5 ++ wN [i, c])).take 16
theorem staT_len (seed : List UInt8) (i c : Nat) : (staT seed i c).length = 16 := by unfold staT; rw [List.length_take, hmac_len]; rfl
def nodT (a b : List UInt8) : List UInt8 := ofT 4 [a, b]
theorem nodT_len (a b : List UInt8) : (nodT a b).length = 16 := ofT_len _ _
def msgT (p : List UInt8) (i : Int) (m : List UInt8) : List UInt8 := ofT 5 [p, wint i, m]
theorem msgT_len (p : List UInt8) (i : Int) (m : List UInt8) : (msgT p i m).length = 16 := ofT_len _ _
end Go.Sx
namespace Go.Sx
open Go.RowKit Go.Proofs
set_option maxRecDepth 100000
set_option maxHeartbeats 8000000
theorem sl_nI (l : List Nat) : sl nC .no l = sl iC .no (l.map fun n => ((n : Nat) : Int)) := by
  have : cl nC l = cl iC (l.map fun n => ((n : Nat) : Int)) := by
    induction l with
    | nil => rfl
    | cons a l ih => rw [List.map_cons]; show _ :: cl nC l = _ :: cl iC _; rw [ih]; rfl
  unfold sl; rw [this, List.length_map]
theorem rep2s (x y : List UInt8) : ((List.replicate 2 []).set 0 x).set 1 y = [x, y] := rfl
theorem rep3s (x y z : List UInt8) : (((List.replicate 3 []).set 0 x).set 1 y).set 2 z = [x, y, z] := rfl
theorem lay3n (i c j : Nat) : lay1s 3 (cl nC (List.replicate 3 0)) [(0, C.val (nI i)), (1, C.val (nI c)), (2, C.val (nI j))] = some (vp (sl nC .full [i, c, j])) := rfl
theorem lay2n (i c : Nat) : lay1s 2 (cl nC (List.replicate 2 0)) [(0, C.val (nI i)), (1, C.val (nI c))] = some (vp (sl nC .full [i, c])) := rfl
theorem t16 {a : List UInt8} (h : a.length = 16) : a.take 16 = a := List.take_of_length_le (by omega)
theorem X_fc48 {p : Prop} (e : p := by intro KZ hZ; simp -implicitDefEqProofs (disch := first | omega | (simp only [go_sem, lA, lD, lT] <;> omega) | decide) only [go_sem, ↓reduceIte, Nat.reduceEqDiff, reduceCtorEq, Nat.reduceLT, Nat.reduceBEq, Nat.reduceAdd, e, hy]; exact hZ) : p := e
theorem F_fc48 {p : Prop} (e : p := by simp -implicitDefEqProofs (disch := first | omega | (simp only [go_sem, lA, lD, lT] <;> omega) | decide) only [go_sem, ↓reduceIte, Nat.reduceEqDiff, reduceCtorEq]; all_goals (rfl)) : p := e
theorem fc48 {gl : Nat → C} {M : Nat} {pu : Nat → List C → Option C}  (hcx : CxOK (cxP gl M pu))  (h60 : ∀ l : List Int, l.length < 1099511627776 → (∀ x ∈ l, -9223372036854775808 ≤ x ∧ x ≤ 9223372036854775807) → pu 60 [sl iC .no l] = some (sl bC (.own 1) (wInts l))) (l : List Nat) (hl : l.length ≤ 3) (hr : ∀ x ∈ l, x < 9223372036854775808) : FC Tryd.prog gl 48 [sl nC .no l] [] (.val (str (wN l))) [] := by
 replace hcx := hcx.reN (M := 6)
 refine FC.ofA (cx := cxP gl 6 pu) (rs := [.tmp 2]) rfl Tryd.func48 rfl rfl rfl (by simp only [List.length_cons, List.length_nil]; decide) (by simp only [go_sem]) ?_
 simp only [ini, go_sem]
 have hy := True.intro
 have hl' : (l.map fun n => ((n : Nat) : Int)).length < 1099511627776 := by rw [List.length_map]; omega
 have hr' : ∀ x ∈ l.map (fun n => ((n : Nat) : Int)), -9223372036854775808 ≤ x ∧ x ≤ 9223372036854775807 := fun x hx => by
   obtain ⟨n, hn, rfl⟩ := List.mem_map.1 hx
   have := hr n hn; omega
 have hw := wN_len l hr hl
 have e : pu 60 [sl nC .no l] = some (sl bC (.own 1) (wN l)) := by rw [sl_nI]; exact h60 _ hl' hr'
 refine Tr.w hcx [] _ [] rfl rfl rfl ?_ X_fc48
 refine Tr.w hcx [1000005] _ [] rfl rfl rfl ?_ X_fc48
 exact Tr.ret F_fc48
theorem X_fc50 {p : Prop} (e : p := by intro KZ hZ; simp -implicitDefEqProofs (disch := first | omega | (simp only [go_sem, lA, lD, lT] <;> omega) | decide) only [go_sem, ↓reduceIte, Nat.reduceEqDiff, reduceCtorEq, Nat.reduceLT, Nat.reduceBEq, Nat.reduceAdd, e, hy]; exact hZ) : p := e
theorem F_fc50 {p : Prop} (e : p := by simp -implicitDefEqProofs (disch := first | omega | (simp only [go_sem, lA, lD, lT] <;> omega) | decide) only [go_sem, ↓reduceIte, Nat.reduceEqDiff, reduceCtorEq]; all_goals (rfl)) : p := e
theorem fc50 {gl : Nat → C} {M : Nat} {pu : Nat → List C → Option C}  (hcx : CxOK (cxP gl M pu))  (h63 : ∀ l : List Int, l.length < 1099511627776 → (∀ x ∈ l, -9223372036854775808 ≤ x ∧ x ≤ 9223372036854775807) → pu 63 [sl iC .no l] = some (sl bC (.own 1) (wInts l))) (l : List Nat) (hl : l.length ≤ 3) (hr : ∀ x ∈ l, x < 9223372036854775808) : FC Tryd.prog gl 50 [sl nC .no l] [] (.val (str (wN l))) [] := by
 replace hcx := hcx.reN (M := 6)
 refine FC.ofA (cx := cxP gl 6 pu) (rs := [.tmp 2]) rfl Tryd.func50 rfl rfl rfl (by simp only [List.length_cons, List.length_nil]; decide) (by simp only [go_sem]) ?_
 simp only [ini, go_sem]
 have hy := True.intro
 have hl' : (l.map fun n => ((n : Nat) : Int)).length < 1099511627776 := by rw [List.length_map]; omega
 have hr' : ∀ x ∈ l.map (fun n => ((n : Nat) : Int)), -9223372036854775808 ≤ x ∧ x ≤ 9223372036854775807 := fun x hx => by
   obtain ⟨n, hn, rfl⟩ := List.mem_map.1 hx
   have := hr n hn; omega
 have hw := wN_len l hr hl
 have e : pu 63 [sl nC .no l] = some (sl bC (.own 1) (wN l)) := by rw [sl_nI]; exact h63 _ hl' hr'
 refine Tr.w hcx [] _ [] rfl rfl rfl ?_ X_fc50
 refine Tr.w hcx [1000005] _ [] rfl rfl rfl ?_ X_fc50
 exact Tr.ret F_fc50
theorem X_fc40 {p : Prop} (e : p := by intro KZ hZ; simp -implicitDefEqProofs (disch := first | omega | (simp only [go_sem, lA, lD, lT, ha, hb, nodT_len] <;> omega) | decide) only [go_sem, ↓reduceIte, Nat.reduceEqDiff, reduceCtorEq, Nat.reduceLT, Nat.reduceBEq, Nat.reduceAdd, rep2s, ta, tb, e, hy]; exact hZ) : p := e
theorem Y_fc40 {p : Prop} (e : p := by intro KZ hZ; simp -implicitDefEqProofs (disch := first | omega | (simp only [go_sem, lA, lD, lT, ha, hb, nodT_len] <;> omega) | decide) only [go_sem, ↓reduceIte, Nat.reduceEqDiff, reduceCtorEq, Nat.reduceLT, Nat.reduceBEq, Nat.reduceAdd, rep2s, ta, tb, e, hy]; refine And.intro ?_ hZ; exact rfl) : p := e
theorem F_fc40 {p : Prop} (e : p := by simp -implicitDefEqProofs (disch := first | omega | (simp only [go_sem, lA, lD, lT, ha, hb, nodT_len] <;> omega) | decide) only [go_sem, ↓reduceIte, Nat.reduceEqDiff, reduceCtorEq]; all_goals (rfl)) : p := e
theorem fc40 {gl : Nat → C} {M : Nat} {pu : Nat → List C → Option C}  (hcx : CxOK (cxP gl M pu))  (h34 : ∀ (tag : Int) (parts : List (List UInt8)), (inp tag parts).length < 1099511627776 → pu 34 [.val (.int .i64 tag), sl sC .no parts] = some (.agg (cl bC (ofT tag parts)))) (a b : List UInt8) (ha : a.length = 16) (hb : b.length = 16) : FC Tryd.prog gl 40 [.agg (cl bC a), .agg (cl bC b)] [] (.agg (cl bC (nodT a b))) [] := by
 replace hcx := hcx.reN (M := 11)
 refine FC.ofA (cx := cxP gl 11 pu) (rs := [.cell 4 23]) rfl Tryd.func40 rfl rfl rfl (by simp only [List.length_cons, List.length_nil]; decide) (by simp only [go_sem]) ?_
 simp only [ini, go_sem]
 have hy := True.intro
 have hin := inp_len2 4 a b (by omega) (by omega)
 have e : pu 34 [.val (nI 4), sl sC .no [a, b]] = some (.agg (cl bC (nodT a b))) := h34 4 [a, b] hin
 have ta := t16 ha
 have tb := t16 hb
 refine Tr.w hcx [] _ [none, none, none] rfl rfl rfl ?_ X_fc40
 refine Tr.wD hcx hMO [] _ [] rfl rfl rfl rfl ?_ Y_fc40
 exact Tr.ret F_fc40
theorem X_fc43 {p : Prop} (e : p := by intro KZ hZ; simp -implicitDefEqProofs (disch := first | omega | (simp only [go_sem, lA, lD, lT, ha, hb, nodT_len] <;> omega) | decide) only [go_sem, ↓reduceIte, Nat.reduceEqDiff, reduceCtorEq, Nat.reduceLT, Nat.reduceBEq, Nat.reduceAdd, rep2s, e, ea, eb, hy]; exact hZ) : p := e
theorem Y_fc43 {p : Prop} (e : p := by intro KZ hZ; simp -implicitDefEqProofs (disch := first | omega | (simp only [go_sem, lA, lD, lT, ha, hb, nodT_len] <;> omega) | decide) only [go_sem, ↓reduceIte, Nat.reduceEqDiff, reduceCtorEq, Nat.reduceLT, Nat.reduceBEq, Nat.reduceAdd, rep2s, e, ea, eb, hy]; refine And.intro ?_ hZ; exact rfl) : p := e
theorem F_fc43 {p : Prop} (e : p := by simp -implicitDefEqProofs (disch := first | omega | (simp only [go_sem, lA, lD, lT, ha, hb, nodT_len] <;> omega) | decide) only [go_sem, ↓reduceIte, Nat.reduceEqDiff, reduceCtorEq]; all_goals (rfl)) : p := e
theorem fc43 {gl : Nat → C} {M : Nat} {pu : Nat → List C → Option C}  (hcx : CxOK (cxP gl M pu))  (h35 : ∀ (tag : Int) (parts : List (List UInt8)), (inp tag parts).length < 1099511627776 → pu 35 [.val (.int .i64 tag), sl sC .no parts] = some (.agg (cl bC (ofT tag parts)))) (h31 : ∀ h : List UInt8, h.length = 16 → pu 31 [.agg (cl bC h)] = some (.val (str h))) (a b : List UInt8) (ha : a.length = 16) (hb : b.length = 16) : FC Tryd.prog gl 43 [.agg (cl bC a), .agg (cl bC b)] [] (.agg (cl bC (nodT a b))) [] := by
 replace hcx := hcx.reN (M := 11)
 refine FC.ofA (cx := cxP gl 11 pu) (rs := [.cell 4 23]) rfl Tryd.func43 rfl rfl rfl (by simp only [List.length_cons, List.length_nil]; decide) (by simp only [go_sem]) ?_
 simp only [ini, go_sem]
 have hy := True.intro
 have hin := inp_len2 4 a b (by omega) (by omega)
 have e : pu 35 [.val (nI 4), sl sC .no [a, b]] = some (.agg (cl bC (nodT a b))) := h35 4 [a, b] hin
 have ea := h31 a ha
 have eb := h31 b hb
 refine Tr.w hcx [] _ [none, none, none] rfl rfl rfl ?_ X_fc43
 refine Tr.wD hcx hMO [] _ [] rfl rfl rfl rfl ?_ Y_fc43
 exact Tr.ret F_fc43
theorem X_fc27 {p : Prop} (e : p := by intro KZ hZ; simp -implicitDefEqProofs (disch := first | omega | (simp only [go_sem, lA, lD, lT, hadv, ofT_len] <;> omega) | decide) only [go_sem, ↓reduceIte, Nat.reduceEqDiff, reduceCtorEq, Nat.reduceLT, Nat.reduceBEq, Nat.reduceAdd, hy]; exact hZ) : p := e
theorem Y_fc27 {p : Prop} (e : p := by intro KZ hZ; simp -implicitDefEqProofs (disch := first | omega | (simp only [go_sem, lA, lD, lT, hadv, ofT_len] <;> omega) | decide) only [go_sem, ↓reduceIte, Nat.reduceEqDiff, reduceCtorEq, Nat.reduceLT, Nat.reduceBEq, Nat.reduceAdd, hy]; refine And.intro ?_ hZ; exact rfl) : p := e
theorem F_fc27 {p : Prop} (e : p := by simp -implicitDefEqProofs (disch := first | omega | (simp only [go_sem, lA, lD, lT, hadv, ofT_len] <;> omega) | decide) only [go_sem, ↓reduceIte, Nat.reduceEqDiff, reduceCtorEq]; all_goals (rw [hjt])) : p := e
theorem fc27 {gl : Nat → C} {M : Nat} {pu : Nat → List C → Option C}  (hcx : CxOK (cxP gl M pu))  (h48 : ∀ l : List Nat, l.length ≤ 3 → (∀ x ∈ l, x < 9223372036854775808) → pu 48 [sl nC .no l] = some (.val (str (wN l)))) (h34 : ∀ (tag : Int) (parts : List (List UInt8)), (inp tag parts).length < 1099511627776 → pu 34 [.val (.int .i64 tag), sl sC .no parts] = some (.agg (cl bC (ofT tag parts)))) (i c f t : Nat) (v : List UInt8) (hv : v.length = 16) (hb : i < 1000000 ∧ c < 1000000 ∧ f < 1000000 ∧ t < 1000000) : FC Tryd.prog gl 27 [.val (nI i), .val (nI c), .val (nI f), .val (nI t), .agg (cl bC v)] [] (.agg (cl bC (advT i c f v (t - f)))) [] := by
 replace hcx := hcx.reN (M := 28)
 refine FC.ofA (cx := cxP gl 28 pu) (rs := [.cell 10 23]) rfl Tryd.func27 rfl rfl rfl (by simp only [List.length_cons, List.length_nil]; decide) (by simp only [go_sem]) ?_
 simp only [ini, go_sem]
 have hy := True.intro
 have hadv := fun n => advT_len i c f hv n
 have hlv := hv
 refine Tr.w hcx [] _ [none, none] rfl rfl rfl ?_ X_fc27
 refine Tr.seqK fun K1 hK1 => ?_
 refine Tr.w hcx [1000012] _ [] rfl rfl rfl ?_ X_fc27
 refine Tr.k [0, 1, 3, 9, 10, 11] ?_
 refine Tr.blk ?_
 refine Tr.loopI (α := Nat) (fun a => [(0, ?v0_1), (1, ?v1_1), (3, ?v3_1), (9, ?v9_1), (10, ?v10_1), (11, .val (nI a))]) (fun a => [some (cl bC (advT i c f v (a - f))), some (cl bC (List.replicate 16 0))]) (fun a => f ≤ a ∧ (a ≤ t ∨ a = f)) (fun a => t - a) (f) ⟨Nat.le_refl _, Or.inr rfl⟩ ?le_1 ?hh_1 ?bd_1
 case hh_1 => exact by rw [Nat.sub_self]; rfl
 case le_1 => exact LT
 rintro j hj
 refine Tr.seqK fun K2 hK2 => ?_
 refine Tr.w hcx [] _ [] rfl rfl rfl ?_ X_fc27
 refine Tr.cD rfl (fun hc15 => ?_) (fun hc15 => ?_)
 ·
  have hlj := hadv (j - f)
  have hwj := wN_len [i, c, j] (fun x hx => by simp at hx; omega) (by simp)
  have e := h48 [i, c, j] (by simp) (fun x hx => by simp at hx; omega)
  have eo : pu 34 [.val (nI 1), sl sC .no [wN [i, c, j], advT i c f v (j - f)]] = _ := h34 1 [wN [i, c, j], advT i c f v (j - f)] (inp_len2 _ _ _ (by omega) (by omega))
  have tt := t16 hlj
  refine Tr.skip ?_
  refine hK2 _ ?_
  refine Tr.seqK fun K3 hK3 => ?_
  refine Tr.blk ?_
  have hy := And.intro @lay3n (And.intro @rep2s (And.intro @e (And.intro @eo @tt)))
  refine Tr.vD hcx hMO [] _ [] rfl rfl rfl rfl ?_ Y_fc27
  refine hK3 _ ?_
  have hy := True.intro
  refine Tr.v hcx [1000017] _ [] rfl rfl rfl ?_ X_fc27
  exact ⟨j + 1, ⟨by omega, O1⟩, LT, by rw [advT_S i c f j v hj.1] <;> rfl⟩
 have hlj := hadv (j - f)
 have hjt : advT i c f v (j - f) = advT i c f v (t - f) := by
   rw [show j - f = t - f by omega]
 refine Tr.exit ?_
 refine hK1 _ ?_
 refine Tr.w hcx [] _ [] rfl rfl rfl ?_ X_fc27
 exact Tr.ret F_fc27
theorem X_fc32 {p : Prop} (e : p := by intro KZ hZ; simp -implicitDefEqProofs (disch := first | omega | (simp only [go_sem, lA, lD, lT, hadv, ofT_len] <;> omega) | decide) only [go_sem, ↓reduceIte, Nat.reduceEqDiff, reduceCtorEq, Nat.reduceLT, Nat.reduceBEq, Nat.reduceAdd, hy]; exact hZ) : p := e
theorem Y_fc32 {p : Prop} (e : p := by intro KZ hZ; simp -implicitDefEqProofs (disch := first | omega | (simp only [go_sem, lA, lD, lT, hadv, ofT_len] <;> omega) | decide) only [go_sem, ↓reduceIte, Nat.reduceEqDiff, reduceCtorEq, Nat.reduceLT, Nat.reduceBEq, Nat.reduceAdd, hy]; refine And.intro ?_ hZ; exact rfl) : p := e
theorem F_fc32 {p : Prop} (e : p := by simp -implicitDefEqProofs (disch := first | omega | (simp only [go_sem, lA, lD, lT, hadv, ofT_len] <;> omega) | decide) only [go_sem, ↓reduceIte, Nat.reduceEqDiff, reduceCtorEq]; all_goals (rw [hjt])) : p := e
theorem fc32 {gl : Nat → C} {M : Nat} {pu : Nat → List C → Option C}  (hcx : CxOK (cxP gl M pu))  (h50 : ∀ l : List Nat, l.length ≤ 3 → (∀ x ∈ l, x < 9223372036854775808) → pu 50 [sl nC .no l] = some (.val (str (wN l)))) (h35 : ∀ (tag : Int) (parts : List (List UInt8)), (inp tag parts).length < 1099511627776 → pu 35 [.val (.int .i64 tag), sl sC .no parts] = some (.agg (cl bC (ofT tag parts)))) (h31 : ∀ h : List UInt8, h.length = 16 → pu 31 [.agg (cl bC h)] = some (.val (str h))) (i c f t : Nat) (v : List UInt8) (hv : v.length = 16) (hb : i < 1000000 ∧ c < 1000000 ∧ f < 1000000 ∧ t < 1000000) : FC Tryd.prog gl 32 [.val (nI i), .val (nI c), .val (nI f), .val (nI t), .agg (cl bC v)] [] (.agg (cl bC (advT i c f v (t - f)))) [] := by
 replace hcx := hcx.reN (M := 28)
 refine FC.ofA (cx := cxP gl 28 pu) (rs := [.cell 10 23]) rfl Tryd.func32 rfl rfl rfl (by simp only [List.length_cons, List.length_nil]; decide) (by simp only [go_sem]) ?_
 simp only [ini, go_sem]
 have hy := True.intro
 have hadv := fun n => advT_len i c f hv n
 have hlv := hv
 refine Tr.w hcx [] _ [none, none] rfl rfl rfl ?_ X_fc32
 refine Tr.seqK fun K1 hK1 => ?_
 refine Tr.w hcx [1000012] _ [] rfl rfl rfl ?_ X_fc32
 refine Tr.k [0, 1, 3, 9, 10, 11] ?_
 refine Tr.blk ?_
 refine Tr.loopI (α := Nat) (fun a => [(0, ?v0_1), (1, ?v1_1), (3, ?v3_1), (9, ?v9_1), (10, ?v10_1), (11, .val (nI a))]) (fun a => [some (cl bC (advT i c f v (a - f))), some (cl bC (List.replicate 16 0))]) (fun a => f ≤ a ∧ (a ≤ t ∨ a = f)) (fun a => t - a) (f) ⟨Nat.le_refl _, Or.inr rfl⟩ ?le_1 ?hh_1 ?bd_1
 case hh_1 => exact by rw [Nat.sub_self]; rfl
 case le_1 => exact LT
 rintro j hj
 refine Tr.seqK fun K2 hK2 => ?_
 refine Tr.w hcx [] _ [] rfl rfl rfl ?_ X_fc32
 refine Tr.cD rfl (fun hc15 => ?_) (fun hc15 => ?_)
 ·
  have hlj := hadv (j - f)
  have hwj := wN_len [i, c, j] (fun x hx => by simp at hx; omega) (by simp)
  have e := h50 [i, c, j] (by simp) (fun x hx => by simp at hx; omega)
  have eo : pu 35 [.val (nI 1), sl sC .no [wN [i, c, j], advT i c f v (j - f)]] = _ := h35 1 [wN [i, c, j], advT i c f v (j - f)] (inp_len2 _ _ _ (by omega) (by omega))
  have et := h31 _ hlj
  refine Tr.skip ?_
  refine hK2 _ ?_
  refine Tr.seqK fun K3 hK3 => ?_
  refine Tr.blk ?_
  have hy := And.intro @lay3n (And.intro @rep2s (And.intro @e (And.intro @eo @et)))
  refine Tr.vD hcx hMO [] _ [] rfl rfl rfl rfl ?_ Y_fc32
  refine hK3 _ ?_
  have hy := True.intro
  refine Tr.v hcx [1000017] _ [] rfl rfl rfl ?_ X_fc32
  exact ⟨j + 1, ⟨by omega, O1⟩, LT, by rw [advT_S i c f j v hj.1] <;> rfl⟩
 have hlj := hadv (j - f)
 have hjt : advT i c f v (j - f) = advT i c f v (t - f) := by
   rw [show j - f = t - f by omega]
 refine Tr.exit ?_
 refine hK1 _ ?_
 refine Tr.w hcx [] _ [] rfl rfl rfl ?_ X_fc32
 exact Tr.ret F_fc32
end Go.Sx
namespace Go.Sx
open Go.RowKit Go.Proofs
set_option maxRecDepth 100000
set_option maxHeartbeats 8000000
theorem fillT_S (c d : UInt8) {t : Nat} (h : t < 32) : (List.replicate t c ++ List.replicate (32 - t) d).set t c = List.replicate (t + 1) c ++ List.replicate (32 - (t + 1)) d := by
  have e : 32 - t = (32 - (t + 1)) + 1 := by omega
  rw [e, List.replicate_succ, set_mid _ _ _ _ _ (List.length_replicate), ← rep_snoc, List.append_assoc]; rfl
theorem digS (s : List UInt8) {j : Nat} (h : j < s.length) (hj : j < 16) : (s.take j ++ List.replicate (16 - j) (0 : UInt8)).set j (gt s j) = s.take (j + 1) ++ List.replicate (16 - (j + 1)) 0 := by
  have e : 16 - j = (16 - (j + 1)) + 1 := by omega
  rw [e, List.replicate_succ, set_mid _ _ _ _ _ (by simp; omega), take_snoc s j h, List.append_assoc]; rfl
set_option maxRecDepth 100000 in
theorem mks52 : mksP Tryd.prog (some ⟨.slice 5, 1, 24, [.slice none 0 0]⟩) (.val (nI 32)) (.val (nI 32)) = some (.new (cl bC (List.replicate 32 0)) fun id => .sv id 0 32) := by
  unfold mksP
  have e : (C.val (nI 32)).int? = some (.i64, 32) := rfl
  simp only [e, td5]
  refine (if_pos ?_).trans ?_
  · refine ⟨by decide, ?_, by decide, by decide, ?_, ?_⟩ <;> first | trivial | rfl
  · rfl
theorem X_fc42 {p : Prop} (e : p := by intro KZ hZ; simp -implicitDefEqProofs (disch := first | omega | (simp only [go_sem, lA, lD, lT, hs] <;> omega) | decide) only [go_sem, ↓reduceIte, Nat.reduceEqDiff, reduceCtorEq, Nat.reduceLT, Nat.reduceBEq, Nat.reduceAdd, hy]; exact hZ) : p := e
theorem F_fc42 {p : Prop} (e : p := by simp -implicitDefEqProofs (disch := first | omega | (simp only [go_sem, lA, lD, lT, hs] <;> omega) | decide) only [go_sem, ↓reduceIte, Nat.reduceEqDiff, reduceCtorEq]; all_goals (rw [List.replicate_zero, List.append_nil])) : p := e
theorem fc42 {gl : Nat → C} {M : Nat} {pu : Nat → List C → Option C}  (hcx : CxOK (cxP gl M pu))  (s : List UInt8) (hs : 16 ≤ s.length ∧ s.length ≤ 1000000) : FC Tryd.prog gl 42 [.val (str s)] [] (.agg (cl bC (s.take 16))) [] := by
 replace hcx := hcx.reN (M := 15)
 refine FC.ofA (cx := cxP gl 15 pu) (rs := [.cell 2 23]) rfl Tryd.func42 rfl rfl rfl (by simp only [List.length_cons, List.length_nil]; decide) (by simp only [go_sem]) ?_
 simp only [ini, go_sem]
 have hy := True.intro
 refine Tr.w hcx [] _ [none] rfl rfl rfl ?_ X_fc42
 refine Tr.w hcx [] _ [none] rfl rfl rfl ?_ X_fc42
 refine Tr.seqK fun K1 hK1 => ?_
 refine Tr.w hcx [] _ [] rfl rfl rfl ?_ X_fc42
 refine Tr.k [0, 2, 3, 4] ?_
 refine Tr.blk ?_
 refine Tr.loopI (α := Nat) (fun a => [(0, ?v0_1), (2, ?v2_1), (3, ?v3_1), (4, .val (nI a))]) (fun a => [some (cl bC (List.replicate 16 0)), some (cl bC (s.take a ++ List.replicate (16 - a) 0))]) (fun a => a ≤ 16) (fun a => 16 - a) (0) (Nat.zero_le _) ?le_1 ?hh_1 ?bd_1
 case hh_1 => exact rfl
 case le_1 => exact LT
 rintro j hj
 refine Tr.seqK fun K2 hK2 => ?_
 refine Tr.w hcx [] _ [] rfl rfl rfl ?_ X_fc42
 refine Tr.cD rfl (fun hc6 => ?_) (fun hc6 => ?_)
 ·
  refine Tr.skip ?_
  refine hK2 _ ?_
  refine Tr.seqK fun K3 hK3 => ?_
  refine Tr.blk ?_
  refine Tr.v hcx [] _ [] rfl rfl rfl ?_ X_fc42
  refine hK3 _ ?_
  refine Tr.v hcx [1000008] _ [] rfl rfl rfl ?_ X_fc42
  exact ⟨j + 1, ⟨by omega, O1⟩, LT, by rw [digS s (by omega) hc6] <;> rfl⟩
 obtain rfl : j = 16 := by omega
 refine Tr.exit ?_
 refine hK1 _ ?_
 refine Tr.w hcx [] _ [] rfl rfl rfl ?_ X_fc42
 exact Tr.ret F_fc42
theorem X_fc28 {p : Prop} (e : p := by intro KZ hZ; simp -implicitDefEqProofs (disch := first | omega | (simp only [go_sem, lA, lD, lT, hl, hsl, hcl] <;> omega) | decide) only [go_sem, ↓reduceIte, Nat.reduceEqDiff, reduceCtorEq, Nat.reduceLT, Nat.reduceBEq, Nat.reduceAdd, lay2n, e, em, es, hy]; exact hZ) : p := e
theorem F_fc28 {p : Prop} (e : p := by simp -implicitDefEqProofs (disch := first | omega | (simp only [go_sem, lA, lD, lT, hl, hsl, hcl] <;> omega) | decide) only [go_sem, ↓reduceIte, Nat.reduceEqDiff, reduceCtorEq]; all_goals (rfl)) : p := e
theorem fc28 {gl : Nat → C} {M : Nat} {pu : Nat → List C → Option C}  (hcx : CxOK (cxP gl M pu))  (h48 : ∀ l : List Nat, l.length ≤ 3 → (∀ x ∈ l, x < 9223372036854775808) → pu 48 [sl nC .no l] = some (.val (str (wN l)))) (h49 : ∀ key t : List UInt8, key.length < 1099511627776 → t.length < 1099511627776 → pu 49 [.val (str key), .val (str t)] = some (.val (str (hmac key t)))) (seed : List UInt8) (i c : Nat) (hs : seed.length ≤ 1000000) (hb : i < 1000000 ∧ c < 1000000) : FC Tryd.prog gl 28 [.val (str seed), .val (nI i), .val (nI c)] [] (.agg (cl bC (staT seed i c))) [] := by
 replace hcx := hcx.reN (M := 18)
 refine FC.ofA (cx := cxP gl 18 pu) (rs := [.cell 6 23]) rfl Tryd.func28 rfl rfl rfl (by simp only [List.length_cons, List.length_nil]; decide) (by simp only [go_sem]) ?_
 simp only [ini, go_sem]
 have hy := True.intro
 have hw := wN_len [i, c] (fun x hx => by simp at hx; omega) (by simp)
 have hl := hmac_len seed (chn5 ++ wN [i, c])
 have hsl := staT_len seed i c
 have hcl : (chn5 ++ wN [i, c]).length = 5 + (wN [i, c]).length := by rw [List.length_append]; rfl
 have e : pu 48 [sl nC .no [i, c]] = some (.val (str (wN [i, c]))) := h48 [i, c] (by simp) (fun x hx => by simp at hx; omega)
 have em : pu 49 [.val (str seed), .val (str (99 :: 104 :: 97 :: 105 :: 110 :: wN [i, c]))] = some (.val (str (hmac seed (chn5 ++ wN [i, c])))) := h49 seed (chn5 ++ wN [i, c]) (by omega) (by omega)
 have es : (hmac seed (chn5 ++ wN [i, c])).take 16 = staT seed i c := rfl
 refine Tr.w hcx [] _ [none] rfl rfl rfl ?_ X_fc28
 refine Tr.w hcx [] _ [] rfl rfl rfl ?_ X_fc28
 exact Tr.ret F_fc28
theorem X_fc33 {p : Prop} (e : p := by intro KZ hZ; simp -implicitDefEqProofs (disch := first | omega | (simp only [go_sem, lA, lD, lT, hl, hsl, hcl] <;> omega) | decide) only [go_sem, ↓reduceIte, Nat.reduceEqDiff, reduceCtorEq, Nat.reduceLT, Nat.reduceBEq, Nat.reduceAdd, lay2n, e, em, ed, hy]; exact hZ) : p := e
theorem F_fc33 {p : Prop} (e : p := by simp -implicitDefEqProofs (disch := first | omega | (simp only [go_sem, lA, lD, lT, hl, hsl, hcl] <;> omega) | decide) only [go_sem, ↓reduceIte, Nat.reduceEqDiff, reduceCtorEq]; all_goals (rfl)) : p := e
theorem fc33 {gl : Nat → C} {M : Nat} {pu : Nat → List C → Option C}  (hcx : CxOK (cxP gl M pu))  (h50 : ∀ l : List Nat, l.length ≤ 3 → (∀ x ∈ l, x < 9223372036854775808) → pu 50 [sl nC .no l] = some (.val (str (wN l)))) (h51 : ∀ key t : List UInt8, key.length < 1099511627776 → t.length < 1099511627776 → pu 51 [.val (str key), .val (str t)] = some (.val (str (hmac key t)))) (h42 : ∀ s : List UInt8, 16 ≤ s.length ∧ s.length ≤ 1000000 → pu 42 [.val (str s)] = some (.agg (cl bC (s.take 16)))) (seed : List UInt8) (i c : Nat) (hs : seed.length ≤ 1000000) (hb : i < 1000000 ∧ c < 1000000) : FC Tryd.prog gl 33 [.val (str seed), .val (nI i), .val (nI c)] [] (.agg (cl bC (staT seed i c))) [] := by
 replace hcx := hcx.reN (M := 15)
 refine FC.ofA (cx := cxP gl 15 pu) (rs := [.cell 6 23]) rfl Tryd.func33 rfl rfl rfl (by simp only [List.length_cons, List.length_nil]; decide) (by simp only [go_sem]) ?_
 simp only [ini, go_sem]
 have hy := True.intro
 have hw := wN_len [i, c] (fun x hx => by simp at hx; omega) (by simp)
 have hl := hmac_len seed (chn5 ++ wN [i, c])
 have hsl := staT_len seed i c
 have hcl : (chn5 ++ wN [i, c]).length = 5 + (wN [i, c]).length := by rw [List.length_append]; rfl
 have e : pu 50 [sl nC .no [i, c]] = some (.val (str (wN [i, c]))) := h50 [i, c] (by simp) (fun x hx => by simp at hx; omega)
 have em : pu 51 [.val (str seed), .val (str (99 :: 104 :: 97 :: 105 :: 110 :: wN [i, c]))] = some (.val (str (hmac seed (chn5 ++ wN [i, c])))) := h51 seed (chn5 ++ wN [i, c]) (by omega) (by omega)
 have ed : pu 42 [.val (str (hmac seed (chn5 ++ wN [i, c])))] = some (.agg (cl bC (staT seed i c))) := h42 _ ⟨by omega, by omega⟩
 refine Tr.w hcx [] _ [none] rfl rfl rfl ?_ X_fc33
 refine Tr.w hcx [] _ [] rfl rfl rfl ?_ X_fc33
 exact Tr.ret F_fc33
theorem X_fc16 {p : Prop} (e : p := by intro KZ hZ; simp -implicitDefEqProofs (disch := first | omega | (simp only [go_sem, lA, lD, lT, hml, hp] <;> omega) | decide) only [go_sem, ↓reduceIte, Nat.reduceEqDiff, reduceCtorEq, Nat.reduceLT, Nat.reduceBEq, Nat.reduceAdd, rep3s, tp, e, eo, hy]; exact hZ) : p := e
theorem Y_fc16 {p : Prop} (e : p := by intro KZ hZ; simp -implicitDefEqProofs (disch := first | omega | (simp only [go_sem, lA, lD, lT, hml, hp] <;> omega) | decide) only [go_sem, ↓reduceIte, Nat.reduceEqDiff, reduceCtorEq, Nat.reduceLT, Nat.reduceBEq, Nat.reduceAdd, rep3s, tp, e, eo, hy]; refine And.intro ?_ hZ; exact rfl) : p := e
theorem F_fc16 {p : Prop} (e : p := by simp -implicitDefEqProofs (disch := first | omega | (simp only [go_sem, lA, lD, lT, hml, hp] <;> omega) | decide) only [go_sem, ↓reduceIte, Nat.reduceEqDiff, reduceCtorEq]; all_goals (rfl)) : p := e
theorem fc16 {gl : Nat → C} {M : Nat} {pu : Nat → List C → Option C}  (hcx : CxOK (cxP gl M pu))  (h26 : ∀ n : Int, -9223372036854775808 ≤ n ∧ n ≤ 9223372036854775807 → pu 26 [.val (.int .i64 n)] = some (sl bC (.own 1) (wint n))) (h34 : ∀ (tag : Int) (parts : List (List UInt8)), (inp tag parts).length < 1099511627776 → pu 34 [.val (.int .i64 tag), sl sC .no parts] = some (.agg (cl bC (ofT tag parts)))) (p : List UInt8) (i : Int) (m : List UInt8) (hp : p.length = 16) (hi : -9223372036854775808 ≤ i ∧ i ≤ 9223372036854775807) (hm : m.length ≤ 1048576) : FC Tryd.prog gl 16 [.agg (cl bC p), .val (.int .i64 i), .val (str m)] [] (.agg (cl bC (msgT p i m))) [] := by
 replace hcx := hcx.reN (M := 15)
 refine FC.ofA (cx := cxP gl 15 pu) (rs := [.cell 6 23]) rfl Tryd.func16 rfl rfl rfl (by simp only [List.length_cons, List.length_nil]; decide) (by simp only [go_sem]) ?_
 simp only [ini, go_sem]
 have hy := True.intro
 have hw := wint_len i hi
 have hml := msgT_len p i m
 have tp := t16 hp
 have e := h26 i hi
 have eo : pu 34 [.val (nI 5), sl sC .no [p, wint i, m]] = some (.agg (cl bC (msgT p i m))) := h34 5 [p, wint i, m] (inp_len3 _ _ _ _ (by omega) (by omega) (by omega))
 refine Tr.w hcx [] _ [none, none] rfl rfl rfl ?_ X_fc16
 refine Tr.wD hcx hMO [] _ [] rfl rfl rfl rfl ?_ Y_fc16
 exact Tr.ret F_fc16
theorem X_fc17 {p : Prop} (e : p := by intro KZ hZ; simp -implicitDefEqProofs (disch := first | omega | (simp only [go_sem, lA, lD, lT, hml, hp] <;> omega) | decide) only [go_sem, ↓reduceIte, Nat.reduceEqDiff, reduceCtorEq, Nat.reduceLT, Nat.reduceBEq, Nat.reduceAdd, rep3s, tp, e, eo, et, hy]; exact hZ) : p := e
theorem F_fc17 {p : Prop} (e : p := by simp -implicitDefEqProofs (disch := first | omega | (simp only [go_sem, lA, lD, lT, hml, hp] <;> omega) | decide) only [go_sem, ↓reduceIte, Nat.reduceEqDiff, reduceCtorEq]; all_goals (rfl)) : p := e
theorem fc17 {gl : Nat → C} {M : Nat} {pu : Nat → List C → Option C}  (hcx : CxOK (cxP gl M pu))  (h30 : ∀ n : Int, -9223372036854775808 ≤ n ∧ n ≤ 9223372036854775807 → pu 30 [.val (.int .i64 n)] = some (sl bC (.own 1) (wint n))) (h35 : ∀ (tag : Int) (parts : List (List UInt8)), (inp tag parts).length < 1099511627776 → pu 35 [.val (.int .i64 tag), sl sC .no parts] = some (.agg (cl bC (ofT tag parts)))) (h31 : ∀ h : List UInt8, h.length = 16 → pu 31 [.agg (cl bC h)] = some (.val (str h))) (p : List UInt8) (i : Int) (m : List UInt8) (hp : p.length = 16) (hi : -9223372036854775808 ≤ i ∧ i ≤ 9223372036854775807) (hm : m.length ≤ 1048576) : FC Tryd.prog gl 17 [.agg (cl bC p), .val (.int .i64 i), .val (str m)] [] (.agg (cl bC (msgT p i m))) [] := by
 replace hcx := hcx.reN (M := 15)
 refine FC.ofA (cx := cxP gl 15 pu) (rs := [.cell 6 23]) rfl Tryd.func17 rfl rfl rfl (by simp only [List.length_cons, List.length_nil]; decide) (by simp only [go_sem]) ?_
 simp only [ini, go_sem]
 have hy := True.intro
 have hw := wint_len i hi
 have hml := msgT_len p i m
 have tp := t16 hp
 have e := h30 i hi
 have eo : pu 35 [.val (nI 5), sl sC .no [p, wint i, m]] = some (.agg (cl bC (msgT p i m))) := h35 5 [p, wint i, m] (inp_len3 _ _ _ _ (by omega) (by omega) (by omega))
 have et := h31 p hp
 refine Tr.w hcx [] _ [none, none] rfl rfl rfl ?_ X_fc17
 refine Tr.w hcx [] _ [] rfl rfl rfl ?_ X_fc17
 exact Tr.ret F_fc17
theorem X_fc21 {p : Prop} (e : p := by intro KZ hZ; simp -implicitDefEqProofs (disch := first | omega | (simp only [go_sem, lA, lD, lT] <;> omega) | decide) only [go_sem, ↓reduceIte, Nat.reduceEqDiff, reduceCtorEq, Nat.reduceLT, Nat.reduceBEq, Nat.reduceAdd, b1, hy]; exact hZ) : p := e
theorem F_fc21 {p : Prop} (e : p := by simp -implicitDefEqProofs (disch := first | omega | (simp only [go_sem, lA, lD, lT] <;> omega) | decide) only [go_sem, ↓reduceIte, Nat.reduceEqDiff, reduceCtorEq]; all_goals (exact congrArg (fun z => some (C.val (.bool z))) (by first | (rw [decide_eq_decide]; omega) | exact (decide_eq_false (by omega)).symm))) : p := e
theorem fc21 {gl : Nat → C} {M : Nat} {pu : Nat → List C → Option C}  (hcx : CxOK (cxP gl M pu))  (h : Int) : FC Tryd.prog gl 21 [.val (.int .i64 h)] [] (.val (.bool (decide (0 ≤ h ∧ h ≤ 6)))) [] := by
 replace hcx := hcx.reN (M := 9)
 refine FC.ofA (cx := cxP gl 9 pu) (rs := [.tmp 2]) rfl Tryd.func21 rfl rfl rfl (by simp only [List.length_cons, List.length_nil]; decide) (by simp only [go_sem]) ?_
 simp only [ini, go_sem]
 have b1 := True.intro
 have hy := True.intro
 refine Tr.w hcx [] _ [] rfl rfl rfl ?_ X_fc21
 by_cases b1 : ((0 : Nat) : Int) ≤ h
 ·
  refine Tr.w hcx [1000008] [some 3, some 4, some 5, some 6, some 7, some 8, some 2] [] rfl rfl rfl ?_ X_fc21
  exact Tr.ret F_fc21
 refine Tr.w hcx [1000008] [some 3, some 4, some 5, some 6, some 7, some 8, some 2] [] rfl rfl rfl ?_ X_fc21
 exact Tr.ret F_fc21
theorem X_fc23 {p : Prop} (e : p := by intro KZ hZ; simp -implicitDefEqProofs (disch := first | omega | (simp only [go_sem, lA, lD, lT] <;> omega) | decide) only [go_sem, ↓reduceIte, Nat.reduceEqDiff, reduceCtorEq, Nat.reduceLT, Nat.reduceBEq, Nat.reduceAdd, b0, b1, hy]; exact hZ) : p := e
theorem F_fc23 {p : Prop} (e : p := by simp -implicitDefEqProofs (disch := first | omega | (simp only [go_sem, lA, lD, lT] <;> omega) | decide) only [go_sem, ↓reduceIte, Nat.reduceEqDiff, reduceCtorEq]; all_goals (exact congrArg (fun z => some (C.val (.bool z))) (by first | (rw [decide_eq_decide]; omega) | exact (decide_eq_false (by omega)).symm))) : p := e
theorem fc23 {gl : Nat → C} {M : Nat} {pu : Nat → List C → Option C}  (hcx : CxOK (cxP gl M pu))  (seed : List UInt8) (h : Int) (hs : seed.length ≤ 1000000) : FC Tryd.prog gl 23 [.val (str seed), .val (.int .i64 h)] [] (.val (.bool (decide (seed.length = 32 ∧ 0 ≤ h ∧ h ≤ 6)))) [] := by
 replace hcx := hcx.reN (M := 16)
 refine FC.ofA (cx := cxP gl 16 pu) (rs := [.tmp 4]) rfl Tryd.func23 rfl rfl rfl (by simp only [List.length_cons, List.length_nil]; decide) (by simp only [go_sem]) ?_
 simp only [ini, go_sem]
 have b0 := True.intro
 have b1 := True.intro
 have hy := True.intro
 refine Tr.w hcx [] _ [] rfl rfl rfl ?_ X_fc23
 by_cases b0 : seed.length = 32
 ·
  by_cases b1 : ((0 : Nat) : Int) ≤ h
  ·
   refine Tr.w hcx [1000015] [some 5, some 6, some 7, some 8, some 9, some 10, some 11, some 12, some 13, some 14, some 15, some 4] [] rfl rfl rfl ?_ X_fc23
   exact Tr.ret F_fc23
  refine Tr.w hcx [1000015] [some 5, some 6, some 7, some 8, some 9, some 10, some 11, some 12, some 13, some 14, some 15, some 4] [] rfl rfl rfl ?_ X_fc23
  exact Tr.ret F_fc23
 refine Tr.w hcx [1000015] [some 5, some 6, some 7, some 8, some 9, some 10, some 11, some 12, some 13, some 14, some 15, some 4] [] rfl rfl rfl ?_ X_fc23
 exact Tr.ret F_fc23
theorem X_fc20 {p : Prop} (e : p := by intro KZ hZ; simp -implicitDefEqProofs (disch := first | omega | (simp only [go_sem, lA, lD, lT] <;> omega) | decide) only [go_sem, ↓reduceIte, Nat.reduceEqDiff, reduceCtorEq, Nat.reduceLT, Nat.reduceBEq, Nat.reduceAdd, mks52, hy]; exact hZ) : p := e
theorem F_fc20 {p : Prop} (e : p := by simp -implicitDefEqProofs (disch := first | omega | (simp only [go_sem, lA, lD, lT] <;> omega) | decide) only [go_sem, ↓reduceIte, Nat.reduceEqDiff, reduceCtorEq]; all_goals (rfl)) : p := e
theorem fc20 {gl : Nat → C} {M : Nat} {pu : Nat → List C → Option C}  (hcx : CxOK (cxP gl M pu))  (c : UInt8) : FC Tryd.prog gl 20 [.val (w8 c)] [] (.val (str (List.replicate 32 c))) [] := by
 replace hcx := hcx.reN (M := 16)
 refine FC.ofA (cx := cxP gl 16 pu) (rs := [.tmp 2]) rfl Tryd.func20 rfl rfl rfl (by simp only [List.length_cons, List.length_nil]; decide) (by simp only [go_sem]) ?_
 simp only [ini, go_sem]
 have hy := True.intro
 refine Tr.w hcx [] _ [] rfl rfl rfl ?_ X_fc20
 refine Tr.w hcx [1000005] _ [none] rfl rfl rfl ?_ X_fc20
 refine Tr.seqK fun K1 hK1 => ?_
 refine Tr.w hcx [] _ [] rfl rfl rfl ?_ X_fc20
 refine Tr.k [0, 3, 4] ?_
 refine Tr.blk ?_
 refine Tr.loopI (α := Nat) (fun a => [(0, ?v0_1), (3, ?v3_1), (4, .val (nI a))]) (fun a => [some (cl bC (List.replicate a c ++ List.replicate (32 - a) 0))]) (fun a => a ≤ 32) (fun a => 32 - a) (0) (Nat.zero_le _) ?le_1 ?hh_1 ?bd_1
 case hh_1 => exact rfl
 case le_1 => exact LT
 rintro j hj
 refine Tr.seqK fun K2 hK2 => ?_
 refine Tr.w hcx [] _ [] rfl rfl rfl ?_ X_fc20
 refine Tr.cD rfl (fun hc7 => ?_) (fun hc7 => ?_)
 ·
  refine Tr.skip ?_
  refine hK2 _ ?_
  refine Tr.seqK fun K3 hK3 => ?_
  refine Tr.blk ?_
  refine Tr.v hcx [] _ [] rfl rfl rfl ?_ X_fc20
  refine hK3 _ ?_
  refine Tr.v hcx [1000009] _ [] rfl rfl rfl ?_ X_fc20
  exact ⟨j + 1, ⟨by omega, O1⟩, LT, by rw [fillT_S c 0 hc7] <;> rfl⟩
 obtain rfl : j = 32 := by omega
 refine Tr.exit ?_
 refine hK1 _ ?_
 refine Tr.w hcx [1000015] _ [] rfl rfl rfl ?_ X_fc20
 exact Tr.ret F_fc20
end Go.Sx
namespace Go.Sx
open Go.RowKit Go.Proofs
set_option maxRecDepth 100000
set_option maxHeartbeats 8000000
def dg (d : List UInt8) (i : Nat) : Nat := (gt d (i / 4)).toNat / 4 ^ (3 - i % 4) % 4
theorem dg_lt (d : List UInt8) (i : Nat) : dg d i < 4 := Nat.mod_lt _ (by decide)
def dgs (d : List UInt8) (n : Nat) : List Nat := (List.range n).map (dg d)
theorem dgs_len (d : List UInt8) (n : Nat) : (dgs d n).length = n := by simp [dgs]
theorem dgs_S (d : List UInt8) (n : Nat) : dgs d (n + 1) = dgs d n ++ [dg d n] := by unfold dgs; rw [List.range_succ, List.map_append]; rfl
def dsum (d : List UInt8) : Nat → Nat
  | 0 => 0
  | n + 1 => dsum d n + (3 - dg d n)
theorem dsum_le (d : List UInt8) : ∀ n, dsum d n ≤ 3 * n
  | 0 => Nat.le_refl _
  | n + 1 => by have := dsum_le d n; unfold dsum; omega
def tl (s : Nat) : Nat → List Nat
  | 0 => []
  | k + 1 => (s / 4 ^ k % 4) :: tl s k
theorem tl_len (s : Nat) : ∀ k, (tl s k).length = k
  | 0 => rfl
  | k + 1 => by simp [tl, tl_len s k]
def digT (d : List UInt8) : List Nat := dgs d 64 ++ tl (dsum d 64) 4
theorem digT_len (d : List UInt8) : (digT d).length = 68 := by unfold digT; rw [List.length_append, dgs_len, tl_len]
theorem b_shr (P : Program) (t : TypeId) (x : UInt8) (n : Nat) (hn : n ≤ 8) : binPlan P .shr t (.val (w8 x)) (.val (nI n)) = some (vp (.val (w8 (UInt8.ofNat (x.toNat / 2 ^ n))))) := by
  rw [w8, nI, bin_int]
  have e : sbin .shr (.int .u8 (x.toNat : Int)) (.int .i64 (n : Int)) = some (.int .u8 ((x.toNat : Int).fdiv (2 ^ (min n 8)))) := by
    show (if (n : Int) < 0 then none else _) = _
    rw [if_neg (by omega)]
    rfl
  have hx : x.toNat < 256 := x.toNat_lt
  have hy : x.toNat / 2 ^ n ≤ x.toNat := Nat.div_le_self _ _
  have hz : (UInt8.ofNat (x.toNat / 2 ^ n)).toNat = x.toNat / 2 ^ n := by
    rw [UInt8.toNat_ofNat']; exact Nat.mod_eq_of_lt (by omega)
  rw [e, w8, hz]
  show some (vp (.val _)) = _
  congr 4
  rw [Nat.min_eq_left hn, Int.fdiv_eq_ediv_of_nonneg _ (Int.le_of_lt (Int.pow_pos (by decide)))]
  have ep : (2 : Int) ^ n = ((2 ^ n : Nat) : Int) := by rw [Int.natCast_pow]; rfl
  rw [ep, ← Int.natCast_ediv]
theorem dgE (d : List UInt8) (i : Nat) : (UInt8.ofNat ((gt d (i / 4)).toNat / 2 ^ (6 - 2 * (i % 4)))).toNat % 4 = dg d i := by
  have hx : (gt d (i / 4)).toNat < 256 := (gt d (i / 4)).toNat_lt
  have hy : (gt d (i / 4)).toNat / 2 ^ (6 - 2 * (i % 4)) ≤ (gt d (i / 4)).toNat := Nat.div_le_self _ _
  rw [UInt8.toNat_ofNat', Nat.mod_eq_of_lt (show _ < 2 ^ 8 by omega)]
  unfold dg
  have : (2 : Nat) ^ (6 - 2 * (i % 4)) = 4 ^ (3 - i % 4) := by
    have : i % 4 < 4 := Nat.mod_lt _ (by decide)
    rcases (show i % 4 = 0 ∨ i % 4 = 1 ∨ i % 4 = 2 ∨ i % 4 = 3 by omega) with h | h | h | h <;> rw [h] <;> rfl
  rw [this]
theorem set_dg (d : List UInt8) {i : Nat} (h : i < 64) : (dgs d i ++ List.replicate (68 - i) 0).set i (dg d i) = dgs d (i + 1) ++ List.replicate (68 - (i + 1)) 0 := by
  rw [set_rep _ _ _ 68 i (dgs_len d i) (by omega), dgs_S, List.append_assoc, show 68 - 1 - i = 68 - (i + 1) by omega]; rfl
theorem gt_dg (d : List UInt8) (i n : Nat) : gt (dgs d (i + 1) ++ List.replicate n 0) i = dg d i := by
  rw [dgs_S, List.append_assoc, List.singleton_append, gt_mid _ _ _ _ (dgs_len d i)]
theorem set_tl (x : List Nat) (s : Nat) {k : Nat} (h : k < 4) (hx : x.length = 64) : (x ++ (List.replicate (4 - k) 0 ++ tl s k)).set (67 - k) (s / 4 ^ k % 4) = x ++ (List.replicate (4 - (k + 1)) 0 ++ tl s (k + 1)) := by
  have e : 4 - k = (3 - k) + 1 := by omega
  rw [List.set_append_right _ _ (by omega), hx, e, List.replicate_succ', List.append_assoc, List.singleton_append, set_mid _ _ _ _ _ (by simp; omega), show 4 - (k + 1) = 3 - k by omega, tl]
theorem fzC_svN (ok : Nat → Bool) (b : Nat) (ys : List C) (o n : Nat) : fzC ok b ys (.sv b o n) = if o + n ≤ ys.length then .sl .no n ((ys.drop o).take n) else .top := by simp only [fzC, ↓reduceIte]
theorem Tr.digF {cx : Cx} (hcx : CxOK cx) {c : Code} {L : List Nat} {m : Nat} {x0 : Option (List C)} {Q : Ex → St → Prop} (hm : m = L.length) (h0 : 0 < m)
    (H : ∀ r, Tr cx 0 c ⟨A [(2, sl nC .no L)], r⟩ Q) : Tr cx 0 c ⟨A [(2, .sv 1 0 m)], [x0, some (cl nC L)]⟩ Q := by
  have hl : liveC (some (cl nC L)) = some (cl nC L) := live_cl nC L
  refine Tr.fzA hcx 1 (cl nC L) hl (Nat.zero_le _) (fun j hj => absurd hj (Nat.not_lt_zero j)) ?_
  have e : fzC (okF [x0, some (cl nC L)] 1) 1 (fzY [x0, some (cl nC L)] 1 (cl nC L)) (.sv 1 0 m) = sl nC .no L := by
    have hc : (cl nC L).length = L.length := by rw [cl_len (f := nC), Nat.mul_one]
    rw [fzC_svN, fzY_cl, if_pos (by omega), List.drop_zero, List.take_of_length_le (by omega), hm]; rfl
  simp only [mapE_cons, mapE_nil, e]
  exact H _
theorem X_fc10 {p : Prop} (e : p := by intro KZ hZ; simp -implicitDefEqProofs (disch := first | omega | (simp only [go_sem, lA, lD, lT, dgs_len, hd, hdg, tl_len] <;> omega) | decide) only [go_sem, ↓reduceIte, Nat.reduceEqDiff, reduceCtorEq, Nat.reduceLT, Nat.reduceBEq, Nat.reduceAdd, dgs_len, hy]; exact hZ) : p := e
theorem F_fc10 {p : Prop} (e : p := by simp -implicitDefEqProofs (disch := first | omega | (simp only [go_sem, lA, lD, lT, dgs_len, hd, hdg, tl_len] <;> omega) | decide) only [go_sem, ↓reduceIte, Nat.reduceEqDiff, reduceCtorEq]; all_goals (rfl)) : p := e
theorem fc10 {gl : Nat → C} {M : Nat} {pu : Nat → List C → Option C}  (hcx : CxOK (cxP gl M pu))  (d : List UInt8) (hd : d.length = 16) : FC Tryd.prog gl 10 [.agg (cl bC d)] [] (sl nC .no (digT d)) [] := by
 replace hcx := hcx.reN (M := 41)
 refine FC.ofA (cx := cxP gl 41 pu) (rs := [.tmp 2]) rfl Tryd.func10 rfl rfl rfl (by simp only [List.length_cons, List.length_nil]; decide) (by simp only [go_sem]) ?_
 simp only [ini, go_sem]
 have hy := True.intro
 have hdl := dgs_len d
 have hdg := dg_lt d 0
 have hss := dsum_le d
 refine Tr.w hcx [] _ [none] rfl rfl rfl ?_ X_fc10
 refine Tr.k [1] ?_
 refine Tr.w hcx [] _ [none] rfl rfl rfl ?_ X_fc10
 refine Tr.k [1, 3] ?_
 refine Tr.w hcx [] _ [] rfl rfl rfl ?_ X_fc10
 refine Tr.k [1, 3, 4] ?_
 refine Tr.seqK fun K1 hK1 => ?_
 refine Tr.w hcx [] _ [] rfl rfl rfl ?_ X_fc10
 refine Tr.k [1, 3, 4, 7] ?_
 refine Tr.blk ?_
 refine Tr.loopI (α := Nat) (fun a => [(1, ?v1_1), (3, ?v3_1), (4, .val (nI (dsum d a))), (7, .val (nI a))]) (fun a => [some (cl bC d), some (cl nC (dgs d a ++ List.replicate (68 - a) 0))]) (fun a => a ≤ 64) (fun a => 64 - a) (0) (Nat.zero_le _) ?le_1 ?hh_1 ?bd_1
 case hh_1 => exact rfl
 case le_1 => exact LT
 rintro i hi
 have hdg := dg_lt d i
 have hsi := hss i
 refine Tr.w hcx [] _ [] rfl rfl rfl ?_ X_fc10
 refine Tr.k [1, 3, 4, 7, 8] ?_
 refine Tr.seqK fun K2 hK2 => ?_
 refine Tr.cD rfl (fun hc8 => ?_) (fun hc8 => ?_)
 ·
  refine Tr.skip ?_
  refine hK2 _ ?_
  refine Tr.k [1, 3, 4, 7] ?_
  refine Tr.seqK fun K3 hK3 => ?_
  refine Tr.blk ?_
  refine Tr.w hcx [1000009] _ [] rfl rfl rfl ?_ X_fc10
  refine Tr.k [1, 3, 4, 5, 7] ?_
  have hy := And.intro @b_shr @dgE
  refine Tr.w hcx [] _ [] rfl rfl rfl ?_ X_fc10
  refine Tr.k [1, 3, 4, 5, 7] ?_
  rw [set_dg d (by omega)]
  have hy := @gt_dg
  refine Tr.v hcx [1000028] _ [] rfl rfl rfl ?_ X_fc10
  refine hK3 _ ?_
  refine Tr.k [1, 3, 4, 7] ?_
  have hy := True.intro
  refine Tr.v hcx [] _ [] rfl rfl rfl ?_ X_fc10
  exact ⟨i + 1, ⟨by omega, O1⟩, LT, rfl⟩
 obtain rfl : i = 64 := by omega
 have hs64 := dsum_le d 64
 refine Tr.exit ?_
 refine hK1 _ ?_
 refine Tr.k [3, 4] ?_
 refine Tr.seqK fun K4 hK4 => ?_
 refine Tr.w hcx [] _ [] rfl rfl rfl ?_ X_fc10
 refine Tr.k [3, 4, 6] ?_
 refine Tr.blk ?_
 refine Tr.loopI (α := Nat) (fun a => [(3, ?v3_2), (4, .val (nI (dsum d 64 / 4 ^ a))), (6, .val (nI (67 - a)))]) (fun a => [some (cl bC d), some (cl nC (dgs d 64 ++ (List.replicate (4 - a) 0 ++ tl (dsum d 64) a)))]) (fun a => a ≤ 4) (fun a => 4 - a) (0) (Nat.zero_le _) ?le_2 ?hh_2 ?bd_2
 case hh_2 => exact by first | rfl | simp [tl]
 case le_2 => exact LT
 rintro k hk
 have hdv : dsum d 64 / 4 ^ k ≤ dsum d 64 := Nat.div_le_self _ _
 have htl := tl_len (dsum d 64) k
 refine Tr.seqK fun K5 hK5 => ?_
 refine Tr.w hcx [] _ [] rfl rfl rfl ?_ X_fc10
 refine Tr.k [3, 4, 6, 31] ?_
 refine Tr.cD rfl (fun hc31 => ?_) (fun hc31 => ?_)
 ·
  refine Tr.skip ?_
  refine hK5 _ ?_
  refine Tr.k [3, 4, 6] ?_
  refine Tr.seqK fun K6 hK6 => ?_
  refine Tr.blk ?_
  refine Tr.w hcx [] _ [] rfl rfl rfl ?_ X_fc10
  refine Tr.k [3, 4, 6] ?_
  refine Tr.v hcx [1000039] _ [] rfl rfl rfl ?_ X_fc10
  refine hK6 _ ?_
  refine Tr.k [3, 4, 6] ?_
  refine Tr.v hcx [1000033] _ [] rfl rfl rfl ?_ X_fc10
  refine ⟨k + 1, ⟨by omega, O1⟩, ?_, by rw [set_tl _ _ (by omega) (dgs_len d 64)] <;> rfl⟩
  (simp only [Le_nil, Le_cons, ↓A_cons, ↓reduceIte, Nat.reduceEqDiff, CLe_refl, CLe_top, CLe_full, CLe_nil, CLe_own, and_true, true_and]; all_goals (repeat' first | exact CLe.refl _ | exact True.intro | (refine CLe_sln ?_; first | rfl | (simp only [List.take_zero]; done)) | exact CLe_nI (by omega) | exact CLe_int (by omega) | exact CLe_inI (by omega) | exact CLe_nIi (by omega) | with_reducible apply And.intro))
  all_goals first | exact CLe.refl _ | (rw [Nat.sub_sub]; exact CLe.refl _) | (rw [Nat.div_div_eq_div_mul, ← Nat.pow_succ]; exact CLe.refl _)
 obtain rfl : k = 4 := by omega
 refine Tr.exit ?_
 refine hK4 _ ?_
 refine Tr.k [3] ?_
 refine Tr.w hcx [1000040] _ [] rfl rfl rfl ?_ X_fc10
 refine Tr.k [2] ?_
 refine Tr.digF hcx (by simp [dgs_len, tl_len]) (by decide) fun _ => ?_
 exact Tr.ret F_fc10
end Go.Sx
namespace Go.Sx
open Go.RowKit Go.Proofs
set_option maxRecDepth 100000
set_option maxHeartbeats 8000000
theorem lay4n (a b c e : Nat) : lay1s 4 (cl nC (List.replicate 4 0)) [(0, C.val (nI a)), (1, C.val (nI b)), (2, C.val (nI c)), (3, C.val (nI e))] = some (vp (sl nC .full [a, b, c, e])) := rfl
theorem lay1n (a : Nat) : lay1s 1 (cl nC [0]) [(0, C.val (nI a))] = some (vp (sl nC .full [a])) := rfl
theorem dsum_S2 (d : List UInt8) (n : Nat) : dsum d n + 3 - dg d n = dsum d (n + 1) := by
  have := dg_lt d n; rw [dsum]; omega
def l4 (b : Nat) : List Nat := [b / 64, b / 16 % 4, b / 4 % 4, b % 4]
theorem l4_gt (d : List UInt8) {i k : Nat} (hk : k < 4) : gt (l4 (gt d i).toNat) k = dg d (4 * i + k) := by
  have hx : (gt d i).toNat < 256 := (gt d i).toNat_lt
  unfold dg
  rw [show (4 * i + k) / 4 = i by omega, show (4 * i + k) % 4 = k by omega]
  rcases (show k = 0 ∨ k = 1 ∨ k = 2 ∨ k = 3 by omega) with rfl | rfl | rfl | rfl
  · show (gt d i).toNat / 64 = (gt d i).toNat / 4 ^ 3 % 4
    rw [show (4 : Nat) ^ 3 = 64 from rfl]; omega
  · rfl
  · rfl
  · show (gt d i).toNat % 4 = (gt d i).toNat / 4 ^ 0 % 4
    rw [Nat.pow_zero, Nat.div_one]
theorem tl_4 {s : Nat} (h : s ≤ 192) : [s / 64, s / 16 % 4, s / 4 % 4, s % 4] = tl s 4 := by
  show _ = [s / 4 ^ 3 % 4, s / 4 ^ 2 % 4, s / 4 ^ 1 % 4, s / 4 ^ 0 % 4]
  rw [Nat.pow_zero, Nat.div_one, show (4 : Nat) ^ 3 = 64 from rfl, show s / 64 = s / 64 % 4 by omega]; simp
theorem X_fc11 {p : Prop} (e : p := by intro KZ hZ; simp -implicitDefEqProofs (disch := first | omega | (simp only [go_sem, lA, lD, lT, dgs_len, hd, hdg, tl_len, hLl] <;> omega) | decide) only [go_sem, ↓reduceIte, Nat.reduceEqDiff, reduceCtorEq, Nat.reduceLT, Nat.reduceBEq, Nat.reduceAdd, dgs_len, lay4n, lay1n, hy]; exact hZ) : p := e
theorem F_fc11 {p : Prop} (e : p := by simp -implicitDefEqProofs (disch := first | omega | (simp only [go_sem, lA, lD, lT, dgs_len, hd, hdg, tl_len, hLl] <;> omega) | decide) only [go_sem, ↓reduceIte, Nat.reduceEqDiff, reduceCtorEq]; all_goals (rfl)) : p := e
theorem fc11 {gl : Nat → C} {M : Nat} {pu : Nat → List C → Option C}  (hcx : CxOK (cxP gl M pu))  (d : List UInt8) (hd : d.length = 16) : FC Tryd.prog gl 11 [.agg (cl bC d)] [] (sl nC (.own 1) (digT d)) [] := by
 replace hcx := hcx.reN (M := 59)
 refine FC.ofA (cx := cxP gl 59 pu) (rs := [.tmp 2]) rfl Tryd.func11 rfl rfl rfl (by simp only [List.length_cons, List.length_nil]; decide) (by simp only [go_sem]) ?_
 simp only [ini, go_sem]
 have hy := True.intro
 have hdl := dgs_len d
 have hdg := dg_lt d 0
 have hss := dsum_le d
 have hLl := True.intro
 refine Tr.w hcx [] _ [none] rfl rfl rfl ?_ X_fc11
 refine Tr.w hcx [] _ [] rfl rfl rfl ?_ X_fc11
 refine Tr.w hcx [] _ [] rfl rfl rfl ?_ X_fc11
 refine Tr.seqK fun K1 hK1 => ?_
 refine Tr.w hcx [] _ [] rfl rfl rfl ?_ X_fc11
 refine Tr.k [1, 3, 4, 5] ?_
 refine Tr.blk ?_
 refine Tr.loopI (α := Nat) (fun a => [(1, ?v1_1), (3, sl nC (.own 1) (dgs d (4 * a))), (4, .val (nI (dsum d (4 * a)))), (5, .val (nI a))]) (fun a => [some (cl bC d)]) (fun a => a ≤ 16) (fun a => 16 - a) (0) (Nat.zero_le _) ?le_1 ?hh_1 ?bd_1
 case hh_1 => exact rfl
 case le_1 => (simp only [Le_nil, Le_cons, ↓A_cons, ↓reduceIte, Nat.reduceEqDiff, CLe_refl, CLe_top, CLe_full, CLe_nil, CLe_own, and_true, true_and]; all_goals (repeat' first | exact CLe.refl _ | exact True.intro | (refine CLe_sln ?_; first | rfl | (simp only [List.take_zero]; done)) | exact CLe_nI (by omega) | exact CLe_int (by omega) | exact CLe_inI (by omega) | exact CLe_nIi (by omega) | with_reducible apply And.intro)); all_goals first | exact CLe.refl _ | exact CLe_sln rfl
 rintro i hi
 have hsi := hss (4 * i)
 have hb8 := (gt d i).toNat_lt
 refine Tr.seqK fun K2 hK2 => ?_
 refine Tr.w hcx [] _ [] rfl rfl rfl ?_ X_fc11
 refine Tr.cD rfl (fun hc10 => ?_) (fun hc10 => ?_)
 ·
  refine Tr.skip ?_
  refine hK2 _ ?_
  refine Tr.seqK fun K3 hK3 => ?_
  refine Tr.blk ?_
  refine Tr.w hcx [1000016] _ [] rfl rfl rfl ?_ X_fc11
  refine Tr.w hcx [1000027] _ [] rfl rfl rfl ?_ X_fc11
  obtain ⟨L, hL⟩ : ∃ L, L = [(gt d i).toNat / 64, (gt d i).toNat / 16 % 4, (gt d i).toNat / 4 % 4, (gt d i).toNat % 4] := ⟨_, rfl⟩
  rw [← hL]
  have hLl : L.length = 4 := by rw [hL]; rfl
  have hLg : ∀ k, k < 4 → gt L k = dg d (4 * i + k) := fun k hk => by rw [hL]; exact l4_gt d hk
  clear hL
  refine Tr.w hcx [] _ [] rfl rfl rfl ?_ X_fc11
  refine Tr.k [1, 3, 4, 5, 7, 8] ?_
  refine Tr.blk ?_
  refine Tr.loopI (α := Nat) (fun a => [(1, ?v1_2), (3, sl nC (.own 1) (dgs d (4 * i + a))), (4, .val (nI (dsum d (4 * i + a)))), (5, ?v5_2), (7, ?v7_2), (8, .val (nI a))]) (fun a => [some (cl bC d)]) (fun a => a ≤ 4) (fun a => 4 - a) (0) (Nat.zero_le _) ?le_2 ?hh_2 ?bd_2
  case hh_2 => exact rfl
  case le_2 => exact LT
  rintro k hk
  have hsk := hss (4 * i + k)
  have hdg := dg_lt d (4 * i + k)
  refine Tr.seqK fun K4 hK4 => ?_
  refine Tr.w hcx [] _ [] rfl rfl rfl ?_ X_fc11
  refine Tr.cD rfl (fun hc29 => ?_) (fun hc29 => ?_)
  ·
   have hgt := hLg k hc29
   refine Tr.skip ?_
   refine hK4 _ ?_
   refine Tr.seqK fun K5 hK5 => ?_
   refine Tr.blk ?_
   have hy := @hgt
   refine Tr.w hcx [32, 1000038] _ [] rfl rfl rfl ?_ X_fc11
   have hy := @hgt
   refine Tr.v hcx [1000045] _ [] rfl rfl rfl ?_ X_fc11
   refine hK5 _ ?_
   refine Tr.k [1, 3, 4, 5, 7, 8] ?_
   have hy := True.intro
   refine Tr.v hcx [1000031] _ [] rfl rfl rfl ?_ X_fc11
   refine ⟨k + 1, ⟨by omega, O1⟩, ?_, rfl⟩
   (simp only [Le_nil, Le_cons, ↓A_cons, ↓reduceIte, Nat.reduceEqDiff, CLe_refl, CLe_top, CLe_full, CLe_nil, CLe_own, and_true, true_and]; all_goals (repeat' first | exact CLe.refl _ | exact True.intro | (refine CLe_sln ?_; first | rfl | (simp only [List.take_zero]; done)) | exact CLe_nI (by omega) | exact CLe_int (by omega) | exact CLe_inI (by omega) | exact CLe_nIi (by omega) | with_reducible apply And.intro))
   all_goals first | exact CLe.refl _ | (rw [dsum_S2]; exact CLe.refl _) | (rw [← Nat.add_assoc, dgs_S]; exact CLe.refl _)
  obtain rfl : k = 4 := by omega
  refine Tr.exit ?_
  refine hK3 _ ?_
  refine Tr.v hcx [1000012] _ [] rfl rfl rfl ?_ X_fc11
  exact ⟨i + 1, ⟨by omega, O1⟩, LT, rfl⟩
 obtain rfl : i = 16 := by omega
 have hs64 := dsum_le d 64
 have htl := tl_4 (s := dsum d 64) (by omega)
 refine Tr.exit ?_
 refine hK1 _ ?_
 have hy := @htl
 refine Tr.w hcx [46, 1000058] _ [] rfl rfl rfl ?_ X_fc11
 exact Tr.ret F_fc11
end Go.Sx
namespace Go.Sx
open Go.RowKit Go.Proofs
def catV (f : Nat → List UInt8) : Nat → List UInt8
  | 0 => []
  | n + 1 => catV f n ++ f n
theorem catV_len {f : Nat → List UInt8} (h : ∀ c, (f c).length = 16) : ∀ n, (catV f n).length = 16 * n
  | 0 => rfl
  | n + 1 => by rw [catV, List.length_append, catV_len h n, h]; omega
theorem catV_congr {f g : Nat → List UInt8} : ∀ n, (∀ c, c < n → f c = g c) → catV f n = catV g n
  | 0, _ => rfl
  | n + 1, h => by rw [catV, catV, catV_congr n (fun c hc => h c (by omega)), h n (by omega)]
def leafV (f : Nat → List UInt8) : List UInt8 := ofT 3 [ofT 2 [catV f 68]]
theorem leafV_len (f : Nat → List UInt8) : (leafV f).length = 16 := ofT_len _ _
theorem leafV_congr {f g : Nat → List UInt8} (h : ∀ c, c < 68 → f c = g c) : leafV f = leafV g := by unfold leafV; rw [catV_congr 68 h]
/-- The end of a chain. -/
def topT (seed : List UInt8) (i c : Nat) : List UInt8 := advT i c 0 (staT seed i c) 3
theorem topT_len (seed : List UInt8) (i c : Nat) : (topT seed i c).length = 16 := advT_len _ _ _ (staT_len _ _ _) _
def leafT (seed : List UInt8) (i : Nat) : List UInt8 := leafV (topT seed i)
theorem leafT_len (seed : List UInt8) (i : Nat) : (leafT seed i).length = 16 := leafV_len _
/-- The node with a number at a level. -/
def treeT (seed : List UInt8) : Nat → Nat → List UInt8
  | 0, k => leafT seed k
  | l + 1, k => nodT (treeT seed l (2 * k)) (treeT seed l (2 * k + 1))
theorem treeT_len (seed : List UInt8) : ∀ l k, (treeT seed l k).length = 16
  | 0, k => leafT_len seed k
  | l + 1, k => nodT_len _ _
end Go.Sx
