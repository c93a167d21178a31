/-
  SHA-256 in numbers, for computations in the kernel: blocks and texts. And what follows.
-/
import Derived.Test.YthjamgmeehjfmaaDoorPas
set_option linter.unusedSimpArgs false
set_option linter.unusedVariables false
namespace Go.Sx
open Go.RowKit Go.Proofs
def wordN (a b c d : Nat) : Nat := ((a <<< 24) % 4294967296) ||| ((b <<< 16) % 4294967296) ||| ((c <<< 8) % 4294967296) ||| d
def wordsN : List Nat → List Nat
  | a :: b :: c :: d :: r => wordN a b c d :: wordsN r
  | _ => []
def addN (s r : N8) : N8 :=
  frc ((s.a + r.a) % 4294967296) fun a => frc ((s.b + r.b) % 4294967296) fun b => frc ((s.c + r.c) % 4294967296) fun c => frc ((s.d + r.d) % 4294967296) fun d =>
  frc ((s.e + r.e) % 4294967296) fun e => frc ((s.f + r.f) % 4294967296) fun f => frc ((s.g + r.g) % 4294967296) fun g => frc ((s.h + r.h) % 4294967296) fun h => ⟨a, b, c, d, e, f, g, h⟩
def kN : List Nat := kc.map BitVec.toNat
def runN (s : N8) : List Nat → N8
  | [w0, w1, w2, w3, w4, w5, w6, w7, w8, w9, w10, w11, w12, w13, w14, w15] =>
    frc w0 fun w0 => frc w1 fun w1 => frc w2 fun w2 => frc w3 fun w3 => frc w4 fun w4 => frc w5 fun w5 => frc w6 fun w6 => frc w7 fun w7 =>
    frc w8 fun w8 => frc w9 fun w9 => frc w10 fun w10 => frc w11 fun w11 => frc w12 fun w12 => frc w13 fun w13 => frc w14 fun w14 => frc w15 fun w15 =>
    rN kN w0 w1 w2 w3 w4 w5 w6 w7 w8 w9 w10 w11 w12 w13 w14 w15 s.a s.b s.c s.d s.e s.f s.g s.h
  | _ => s
def compN (s : N8) (b : List Nat) : N8 := addN s (runN s (wordsN b))
theorem bw_nat (x : UInt8) : (bw x).toNat = x.toNat := by
  have hx : x.toNat < 256 := x.toNat_lt
  unfold bw
  rw [BitVec.toNat_setWidth]
  exact Nat.mod_eq_of_lt (show x.toNat < 2 ^ 32 by omega)
theorem word4_nat (b : List UInt8) (t : Nat) : (word4 b t).toNat = wordN (gt b (4 * t)).toNat (gt b (4 * t + 1)).toNat (gt b (4 * t + 2)).toNat (gt b (4 * t + 3)).toNat := by
  unfold word4 wordN
  simp only [BitVec.toNat_or, BitVec.toNat_shiftLeft, bw_nat]
theorem wordsN_eq : ∀ (n : Nat) (b : List UInt8), b.length = 4 * n → wordsN (b.map UInt8.toNat) = (List.range n).map fun t => (word4 b t).toNat
  | 0, b, h => by
    have : b = [] := List.length_eq_zero_iff.1 (by omega)
    subst this; rfl
  | n + 1, b, h => by
    match b, h with
    | x0 :: x1 :: x2 :: x3 :: r, h =>
      have ih := wordsN_eq n r (by simp only [List.length_cons] at h; omega)
      show wordsN (x0.toNat :: x1.toNat :: x2.toNat :: x3.toNat :: r.map UInt8.toNat) = _
      rw [wordsN, ih, List.range_succ_eq_map, List.map_cons, List.map_map, word4_nat]
      congr 1
theorem wS_lo (b : List UInt8) {t : Nat} (h : t < 16) : wS b t = word4 b t := by
  unfold wS
  rw [word_eq b t h, gt_mid _ _ _ _ (sched_len b t)]
theorem addN_eq (s r : S8) : addN s.n r.n = (s.add r).n := by
  unfold addN
  simp only [frc_eq]
  show N8.mk _ _ _ _ _ _ _ _ = N8.mk _ _ _ _ _ _ _ _
  congr 1
theorem runN_eq (s : S8) (b : List UInt8) : runN s.n [(wS b 0).toNat, (wS b 1).toNat, (wS b 2).toNat, (wS b 3).toNat, (wS b 4).toNat, (wS b 5).toNat, (wS b 6).toNat, (wS b 7).toNat, (wS b 8).toNat, (wS b 9).toNat, (wS b 10).toNat, (wS b 11).toNat, (wS b 12).toNat, (wS b 13).toNat, (wS b 14).toNat, (wS b 15).toNat] = (rdsW b s 64).n := by
  have hr := rN_W b s 64 0 rfl
  simp only [Nat.zero_add, List.drop_zero] at hr
  have h0 : rdsW b s 0 = s := rfl
  rw [h0] at hr
  unfold runN kN
  simp only [frc_eq]
  generalize rdsW b s 64 = q at *
  simp only [S8.n] at hr ⊢
  exact hr
theorem words_16 (b : List UInt8) : (List.range 16).map (fun t => (word4 b t).toNat) = [(wS b 0).toNat, (wS b 1).toNat, (wS b 2).toNat, (wS b 3).toNat, (wS b 4).toNat, (wS b 5).toNat, (wS b 6).toNat, (wS b 7).toNat, (wS b 8).toNat, (wS b 9).toNat, (wS b 10).toNat, (wS b 11).toNat, (wS b 12).toNat, (wS b 13).toNat, (wS b 14).toNat, (wS b 15).toNat] := by
  have hl : ∀ t ∈ List.range 16, (word4 b t).toNat = (wS b t).toNat := fun t ht => by rw [wS_lo b (List.mem_range.1 ht)]
  rw [List.map_congr_left hl]
  generalize wS b = f
  rfl
theorem compN_eq (s : S8) (b : List UInt8) (hb : b.length = 64) : compN s.n (b.map UInt8.toNat) = (comp s b).n := by
  unfold compN
  rw [wordsN_eq 16 b hb, words_16, runN_eq, ← rounds_W b s 64 (Nat.le_refl _)]
  exact addN_eq _ _
/-- The state behind some blocks. -/
def bkN (M : List Nat) : Nat → N8
  | 0 => IV.n
  | a + 1 => compN (bkN M a) ((M.drop (64 * a)).take 64)
theorem bkN_eq (M : List UInt8) : ∀ a, 64 * a ≤ M.length → bkN (M.map UInt8.toNat) a = (feed F0 (M.take (64 * a))).s.n
  | 0, _ => by rw [Nat.mul_zero, List.take_zero]; rfl
  | a + 1, h => by
    have ih := bkN_eq M a (by omega)
    rw [bkN, ih, blk_step M a (by omega), ← List.map_drop, ← List.map_take]
    exact compN_eq _ _ (by rw [List.length_take, List.length_drop]; omega)
def digN (s : N8) (n : Nat) : List UInt8 := (List.range n).map fun i => UInt8.ofNat (gt [s.a, s.b, s.c, s.d, s.e, s.f, s.g, s.h] (i / 4) >>> (24 - 8 * (i % 4)))
theorem dgb_nat (s : S8) {i : Nat} (h : i < 32) : dgb s i = UInt8.ofNat (gt [s.n.a, s.n.b, s.n.c, s.n.d, s.n.e, s.n.f, s.n.g, s.n.h] (i / 4) >>> (24 - 8 * (i % 4))) := by
  have e : gt [s.n.a, s.n.b, s.n.c, s.n.d, s.n.e, s.n.f, s.n.g, s.n.h] (i / 4) = (gt s.l (i / 4)).toNat := by
    rcases (show i / 4 = 0 ∨ i / 4 = 1 ∨ i / 4 = 2 ∨ i / 4 = 3 ∨ i / 4 = 4 ∨ i / 4 = 5 ∨ i / 4 = 6 ∨ i / 4 = 7 by omega) with q | q | q | q | q | q | q | q <;> rw [q] <;> rfl
  rw [e]
  apply UInt8.toNat_inj.1
  rw [UInt8.toNat_ofNat']
  show ((gt s.l (i / 4) >>> (24 - 8 * (i % 4))).setWidth 8).toNat = _
  rw [BitVec.toNat_setWidth, BitVec.toNat_ushiftRight]
theorem digN_eq (s : S8) {n : Nat} (h : n ≤ 32) : dig s n = digN s.n n := by
  unfold dig digN
  exact List.map_congr_left fun i hi => dgb_nat s (by have := List.mem_range.1 hi; omega)
/-- The hash, by numbers. -/
def shaN (b : List UInt8) : List UInt8 := digN (bkN ((b ++ pad b.length).map UInt8.toNat) ((b ++ pad b.length).length / 64)) 32
theorem shaN_eq (b : List UInt8) : sha b = shaN b := by
  obtain ⟨Q, hQ⟩ := padM_len b
  unfold shaN
  rw [sha_eq, bkN_eq _ _ (by rw [hQ]; omega), hQ, show 64 * Q / 64 = Q by omega, List.take_of_length_le (by omega), digN_eq _ (Nat.le_refl _)]
end Go.Sx
namespace Go.Sx
open Go.RowKit Go.Proofs
section
variable (H : List UInt8 → List UInt8)
def ofG (tag : Int) (parts : List (List UInt8)) : List UInt8 := (H (inp tag parts)).take 16
def advG (i c f : Nat) (v : List UInt8) : Nat → List UInt8
  | 0 => v
  | n + 1 => ofG H 1 [wN [i, c, f + n], advG i c f v n]
def hmG (key t : List UInt8) : List UInt8 := H (padk (keyOf key) 92 ++ H (padk (keyOf key) 54 ++ t))
def staG (seed : List UInt8) (i c : Nat) : List UInt8 := (hmG H seed (chn5 ++ wN [i, c])).take 16
def topG (seed : List UInt8) (i c : Nat) : List UInt8 := advG H i c 0 (staG H seed i c) 3
def leafG (f : Nat → List UInt8) : List UInt8 := ofG H 3 [ofG H 2 [catV f 68]]
end
theorem advG_eq (i c f : Nat) (v : List UInt8) : ∀ n, advG sha i c f v n = advT i c f v n
  | 0 => rfl
  | n + 1 => by rw [advG, advG_eq i c f v n]; rfl
theorem sha_N : sha = shaN := funext shaN_eq
theorem advN (i c f : Nat) (v : List UInt8) (n : Nat) : advT i c f v n = advG shaN i c f v n := by rw [← advG_eq, sha_N]
theorem staN (seed : List UInt8) (i c : Nat) : staT seed i c = staG shaN seed i c := by
  have : staT seed i c = staG sha seed i c := rfl
  rw [this, sha_N]
theorem topN (seed : List UInt8) (i c : Nat) : topT seed i c = topG shaN seed i c := by
  unfold topT topG; rw [advN, staN]
theorem leafN (f : Nat → List UInt8) : leafV f = leafG shaN f := by
  have : leafV f = leafG sha f := rfl
  rw [this, sha_N]
theorem ofN (tag : Int) (parts : List (List UInt8)) : ofT tag parts = ofG shaN tag parts := by
  have : ofT tag parts = ofG sha tag parts := rfl
  rw [this, sha_N]
theorem leafTN (seed : List UInt8) (i : Nat) : leafT seed i = leafG shaN (topG shaN seed i) := by
  unfold leafT; rw [leafN, show topT seed i = topG shaN seed i from funext (topN seed i)]
end Go.Sx
namespace Go.Sx
open Go.RowKit Go.Proofs
def seed5 : List UInt8 := List.replicate 32 5
theorem leaf50 : leafT seed5 0 = [80, 73, 45, 231, 176, 163, 176, 191, 50, 21, 175, 156, 94, 157, 129, 60] := by
  rw [leafTN]; decide +kernel
end Go.Sx
namespace Go.Sx
open Go.RowKit Go.Proofs
theorem leaf51 : leafT (List.replicate 32 5) 1 = [248, 13, 241, 199, 82, 0, 7, 175, 211, 9, 215, 170, 188, 253, 121, 229] := by
  rw [leafTN]; decide +kernel
end Go.Sx
namespace Go.Sx
open Go.RowKit Go.Proofs
def pub5 : List UInt8 := [31, 233, 193, 5, 43, 37, 86, 82, 86, 138, 196, 127, 177, 93, 124, 69]
theorem root5 : treeT seed5 1 0 = pub5 := by
  show nodT (leafT seed5 0) (leafT seed5 1) = pub5
  rw [leaf50, show leafT seed5 1 = _ from leaf51]
  unfold nodT
  rw [ofN]; decide +kernel
theorem msg5m : msgT pub5 1 [109] = [139, 49, 158, 214, 218, 149, 35, 105, 244, 17, 128, 141, 108, 115, 184, 138] := by
  unfold msgT; rw [ofN]; decide +kernel
theorem msg5z : msgT pub5 0 [109] = [93, 127, 84, 121, 72, 2, 126, 124, 204, 93, 73, 115, 236, 133, 242, 12] := by
  unfold msgT; rw [ofN]; decide +kernel
def dig5m : List Nat := [2, 0, 2, 3, 0, 3, 0, 1, 2, 1, 3, 2, 3, 1, 1, 2, 3, 1, 2, 2, 2, 1, 1, 1, 0, 2, 0, 3, 1, 2, 2, 1, 3, 3, 1, 0, 0, 1, 0, 1, 2, 0, 0, 0, 2, 0, 3, 1, 1, 2, 3, 0, 1, 3, 0, 3, 2, 3, 2, 0, 2, 0, 2, 2, 1, 2, 0, 3]
def dig5n : List Nat := [3, 2, 2, 1, 2, 2, 2, 1, 1, 3, 1, 2, 3, 0, 2, 1, 3, 1, 2, 0, 2, 1, 0, 0, 3, 3, 1, 2, 3, 0, 1, 3, 1, 2, 0, 1, 1, 0, 2, 3, 0, 0, 1, 0, 3, 2, 0, 1, 0, 2, 1, 3, 2, 3, 0, 2, 2, 2, 1, 3, 0, 1, 0, 2, 1, 2, 0, 2]
theorem dig5m_eq : digT (msgT pub5 1 [109]) = dig5m := by rw [msg5m]; decide +kernel
theorem dig5n_eq : digT (msgT pub5 1 [110]) = dig5n := by
  unfold msgT; rw [ofN]; decide +kernel
def endG (c : Nat) : List UInt8 := advG shaN 1 c (gt dig5n c) (advG shaN 1 c 0 (staG shaN (List.replicate 32 5) 1 c) (gt dig5m c)) (3 - gt dig5n c)
theorem wrong5 : leafG shaN endG = [147, 73, 31, 29, 228, 184, 90, 61, 164, 58, 106, 58, 115, 185, 176, 101] := by decide +kernel
end Go.Sx
namespace Go.Sx
open Go.RowKit Go.Proofs
theorem bod5_dig : digT (msgT (treeT seed5 1 0) ((1 : Nat) : Int) [109]) = dig5m := by rw [root5]; exact dig5m_eq
theorem end5 (c : Nat) (h : c < 68) : endV 1 (digT (msgT pub5 ((1 : Nat) : Int) [110])) (bodT seed5 1 1 [109]) c = endG c := by
  have e : digT (msgT pub5 ((1 : Nat) : Int) [110]) = dig5n := dig5n_eq
  unfold endV endG
  rw [e, at16_lo seed5 1 1 [109] h, bod5_dig]
  unfold sgF
  rw [advN, advN, staN]
  rfl
theorem root5w : rootV pub5 1 1 [110] (bodT seed5 1 1 [109]) ≠ pub5 := by
  unfold rootV
  rw [leafV_congr (g := endG) end5, leafN, wrong5, up_T (l := 0) (by decide)]
  have ha := at16_hi seed5 1 1 [109] (l := 0) (by decide)
  rw [ha]
  have hau : auF seed5 1 0 = leafT seed5 0 := rfl
  rw [hau, leaf50]
  unfold upR nodT
  rw [ofN]
  decide +kernel
theorem ver5w : verT pub5 1 [110] (sigT seed5 1 1 [109]) = (0, 19) := by
  have hg := getI_sig (seed := seed5) (h := 1) (i := 1) (m := [109]) (by decide) []
  rw [List.append_nil] at hg
  have hd : (sigT seed5 1 1 [109]).drop (wint ((1 : Nat) : Int)).length = bodT seed5 1 1 [109] := by rw [sigT_eq, List.drop_left]
  have := ver_z (p := pub5) (m := [110]) (k := 1) (i := 1) (by decide) (by decide) hg (by decide) (by rw [hd, bodT_len])
  rw [hd, if_neg root5w] at this
  exact this
theorem msg5_ne : msgT pub5 1 [109] ≠ msgT pub5 0 [109] := by rw [msg5m, msg5z]; decide
end Go.Sx
namespace Go.Sx
open Go.RowKit Go.Proofs
set_option maxRecDepth 100000 in
set_option maxHeartbeats 8000000 in
theorem fc18 {gl : Nat → C} {M : Nat} {pu : Nat → List C → Option C}  (hcx : CxOK (cxD gl M pu)) (h21 : ∀ h : Int, pu 21 [.val (.int .i64 h)] = some (.val (.bool (decide (0 ≤ h ∧ h ≤ 6))))) (h36 : ∀ b : List UInt8, b.length < 9223372036854775807 → pu 36 [sl bC .no b] = some (.tup [.val (.int .i64 (getI b).1), .val (nI (getI b).2.1), .val (nI (getI b).2.2)])) (h16 : ∀ (p : List UInt8) (i : Int) (m : List UInt8), p.length = 16 → (-9223372036854775808 ≤ i ∧ i ≤ 9223372036854775807) → m.length ≤ 1048576 → pu 16 [.agg (cl bC p), .val (.int .i64 i), .val (str m)] = some (.agg (cl bC (msgT p i m)))) (h10 : ∀ d : List UInt8, d.length = 16 → pu 10 [.agg (cl bC d)] = some (sl nC .no (digT d))) (h37 : ∀ (k : Nat) (r : List UInt8), 16 * k + 16 ≤ r.length ∧ r.length ≤ 1000000 → pu 37 [.val (nI k), .kp [sl bC .no r]] = some (.agg (cl bC (at16 r k)))) (h38 : ∀ (i : Nat) (D : List Nat) (r : List UInt8), i < 1000000 → D.length = 68 → (∀ c, c < 68 → gt D c < 4) → 1088 ≤ r.length ∧ r.length ≤ 1000000 → pu 38 [.fn 39 [.kp [.val (nI i)], .kp [sl nC .no D], .kp [.fn 37 [.kp [sl bC .no r]]]]] = some (.agg (cl bC (leafV (endV i D r))))) (h40 : ∀ a b : List UInt8, a.length = 16 → b.length = 16 → pu 40 [.agg (cl bC a), .agg (cl bC b)] = some (.agg (cl bC (nodT a b)))) (hno : ∀ (g : Nat) (xs : List C), refy xs = true → pu g xs = none) (hnr : ∀ (g : Nat) (xs : List C), noRefs 0 xs = false → pu g xs = none) (p : List UInt8) (h : Int) (m sg : List UInt8) (hp : p.length = 16) (hh : -9223372036854775808 ≤ h ∧ h ≤ 9223372036854775807) (hm : m.length ≤ 1000000000) (hsg : sg.length ≤ 900000) : FC Tryd.prog gl 18 [.agg (cl bC p), .val (.int .i64 h), .val (str m), .val (str sg)] [] (.tup [.val (.int .i64 (verT p h m sg).1), .val (nI (verT p h m sg).2)]) [] := by
 replace hcx := hcx.reN (M := 90)
 refine FC.ofA (cx := cxD gl 90 pu) (rs := [.tmp 8, .tmp 9]) rfl Tryd.func18 rfl rfl rfl (by simp only [List.length_cons, List.length_nil]; decide) (by simp only [go_sem]) ?_
 simp only [ini, go_sem]
 have e36 := h36 sg (by omega)
 have hbd := getI_bd sg
 obtain ⟨x, n, e, hg⟩ : ∃ x n e, getI sg = (x, n, e) := ⟨_, _, _, rfl⟩
 rw [hg] at e36 hbd
 simp only [] at e36 hbd
 have hk0 := True.intro
 have hk7 := True.intro
 have hi0 := True.intro
 have hi2 := True.intro
 have hDl := True.intro
 have e21 := h21 h
 have en38 : pu 38 [.fn 39 [.bp 1 0, .bp 4 0, .bp 3 0]] = none := hnr 38 _ rfl
 refine Tr.seqK fun K1 hK1 => ?_
 refine Tr.rg hcx [] _ [none] rfl rfl rfl ?_
 simp -implicitDefEqProofs (maxSteps := 2000000) (disch := first | omega | (simp only [go_sem, List.length_append, List.length_drop, List.length_take, hp, hDl, ofT_len, nodT_len] <;> omega) | decide) only [go_sem, ↓reduceIte, Nat.reduceEqDiff, reduceCtorEq, Nat.reduceLT, Nat.reduceBEq, Nat.reduceAdd, Nat.reduceSub, Nat.reduceMul, Nat.reduceMod]
 refine hK1 _ ?_
 clear hK1 K1
 refine Tr.kp [1, 2, 3, 4] ?_
 simp only [pk_cons, pk_nil, ↓A_cons, ↓reduceIte, Nat.reduceEqDiff]
 refine Tr.seqK fun K2 hK2 => ?_
 refine Tr.blk ?_
 refine Tr.seqK fun K3 hK3 => ?_
 by_cases b1 : 0 ≤ h ∧ h ≤ 6
 ·
  obtain ⟨k, rfl⟩ : ∃ k : Nat, h = (k : Int) := ⟨h.toNat, by omega⟩
  have hk6 : k ≤ 6 := by omega
  have hk0 : (k < 0) = False := by simp
  have hk7 : (6 < k) = False := eq_false (by omega)
  have hp64 := pow_64 hk6 0
  rw [Nat.sub_zero] at hp64
  replace e21 : pu 21 [.val (nI k)] = some (.val (.bool (decide (0 ≤ (k : Int) ∧ (k : Int) ≤ 6)))) := e21
  refine Tr.rg hcx [1000021] _ [] rfl rfl rfl ?_
  simp -implicitDefEqProofs (maxSteps := 2000000) (disch := first | omega | (simp only [go_sem, List.length_append, List.length_drop, List.length_take, hp, hDl, ofT_len, nodT_len] <;> omega) | decide) only [go_sem, ↓reduceIte, Nat.reduceEqDiff, reduceCtorEq, Nat.reduceLT, Nat.reduceBEq, Nat.reduceAdd, Nat.reduceSub, Nat.reduceMul, Nat.reduceMod, b1, e21, b1]
  refine hK3 _ ?_
  clear hK3 K3
  refine Tr.kp [1, 2, 3, 4, 18] ?_
  simp only [pk_cons, pk_nil, ↓A_cons, ↓reduceIte, Nat.reduceEqDiff]
  refine Tr.condG fun KT KF hT hF => ?_
  simp only [ev_tmp, ev_const, ↓A_cons, ↓reduceIte, Nat.reduceEqDiff, reduceCtorEq, condG_bool, GB_true, GB_false, decide_eq_true_eq]
  refine hF ?_
  clear hT hF KT KF
  refine Tr.seqK fun K4 hK4 => ?_
  refine Tr.rg hcx [1000025] _ [] rfl rfl rfl ?_
  simp -implicitDefEqProofs (maxSteps := 2000000) (disch := first | omega | (simp only [go_sem, List.length_append, List.length_drop, List.length_take, hp, hDl, ofT_len, nodT_len] <;> omega) | decide) only [go_sem, ↓reduceIte, Nat.reduceEqDiff, reduceCtorEq, Nat.reduceLT, Nat.reduceBEq, Nat.reduceAdd, Nat.reduceSub, Nat.reduceMul, Nat.reduceMod, b1]
  refine hK4 _ ?_
  clear hK4 K4
  refine Tr.kp [1, 2, 3, 4, 22] ?_
  simp only [pk_cons, pk_nil, ↓A_cons, ↓reduceIte, Nat.reduceEqDiff]
  refine Tr.condG fun KT KF hT hF => ?_
  simp only [ev_tmp, ev_const, ↓A_cons, ↓reduceIte, Nat.reduceEqDiff, reduceCtorEq, condG_bool, GB_true, GB_false, decide_eq_true_eq]
  refine GB.dec (fun hc22 => hT ?_) (fun hc22 => hF ?_)
  ·
   clear hT hF KT KF
   refine Tr.seqK fun K5 hK5 => ?_
   refine Tr.rg hcx [] _ [] rfl rfl rfl ?_
   simp -implicitDefEqProofs (maxSteps := 2000000) (disch := first | omega | (simp only [go_sem, List.length_append, List.length_drop, List.length_take, hp, hDl, ofT_len, nodT_len] <;> omega) | decide) only [go_sem, ↓reduceIte, Nat.reduceEqDiff, reduceCtorEq, Nat.reduceLT, Nat.reduceBEq, Nat.reduceAdd, Nat.reduceSub, Nat.reduceMul, Nat.reduceMod, b1]
   refine hK5 _ ?_
   clear hK5 K5
   refine Tr.kp [8, 9] ?_
   simp only [pk_cons, pk_nil, ↓A_cons, ↓reduceIte, Nat.reduceEqDiff]
   refine Tr.ret ?_
   simp -implicitDefEqProofs (disch := first | omega | (simp only [go_sem, List.length_append, List.length_drop, List.length_take, hp, hDl, ofT_len, nodT_len] <;> omega) | decide) only [go_sem, ↓reduceIte, Nat.reduceEqDiff, reduceCtorEq]
   all_goals (first | (rw [ver_1 b1]; rfl) | (rw [ver_4 hk6 (by omega)]; rfl) | (rw [ver_e hk6 (by omega) hg b3]; rfl) | (rw [ver_2 hk6 (by omega) hg (by first | exact Or.inl b4 | exact Or.inr (Or.inl b5) | exact Or.inr (Or.inr b6))]; rfl) | (rw [ver_z hk6 (by omega) hg hik b6o, rootV, ← hD, if_pos z0]; rfl) | (rw [ver_z hk6 (by omega) hg hik b6o, rootV, ← hD, if_neg z0]; rfl))
  ·
   clear hT hF KT KF
   refine Tr.skip ?_
   refine hK2 _ ?_
   clear hK2 K2
   refine Tr.kp [1, 2, 3, 4] ?_
   simp only [pk_cons, pk_nil, ↓A_cons, ↓reduceIte, Nat.reduceEqDiff]
   refine Tr.seqK fun K6 hK6 => ?_
   refine Tr.rg hcx [1000031, 1000032] _ [none] rfl rfl rfl ?_
   simp -implicitDefEqProofs (maxSteps := 2000000) (disch := first | omega | (simp only [go_sem, List.length_append, List.length_drop, List.length_take, hp, hDl, ofT_len, nodT_len] <;> omega) | decide) only [go_sem, ↓reduceIte, Nat.reduceEqDiff, reduceCtorEq, Nat.reduceLT, Nat.reduceBEq, Nat.reduceAdd, Nat.reduceSub, Nat.reduceMul, Nat.reduceMod, b1, e36]
   refine hK6 _ ?_
   clear hK6 K6
   refine Tr.kp [1, 2, 3, 4, 10, 11, 12] ?_
   simp only [pk_cons, pk_nil, ↓A_cons, ↓reduceIte, Nat.reduceEqDiff]
   refine Tr.seqK fun K7 hK7 => ?_
   refine Tr.seqK fun K8 hK8 => ?_
   by_cases b3 : e = 0
   ·
    subst b3
    have b3 := True.intro
    refine Tr.rg hcx [] _ [] rfl rfl rfl ?_
    simp -implicitDefEqProofs (maxSteps := 2000000) (disch := first | omega | (simp only [go_sem, List.length_append, List.length_drop, List.length_take, hp, hDl, ofT_len, nodT_len] <;> omega) | decide) only [go_sem, ↓reduceIte, Nat.reduceEqDiff, reduceCtorEq, Nat.reduceLT, Nat.reduceBEq, Nat.reduceAdd, Nat.reduceSub, Nat.reduceMul, Nat.reduceMod, b1, b3]
    refine hK8 _ ?_
    clear hK8 K8
    refine Tr.kp [1, 2, 3, 4, 10, 11, 12, 34] ?_
    simp only [pk_cons, pk_nil, ↓A_cons, ↓reduceIte, Nat.reduceEqDiff]
    refine Tr.condG fun KT KF hT hF => ?_
    simp only [ev_tmp, ev_const, ↓A_cons, ↓reduceIte, Nat.reduceEqDiff, reduceCtorEq, condG_bool, GB_true, GB_false, decide_eq_true_eq]
    refine hF ?_
    clear hT hF KT KF
    refine Tr.skip ?_
    refine hK7 _ ?_
    clear hK7 K7
    refine Tr.kp [1, 2, 3, 4, 10, 11] ?_
    simp only [pk_cons, pk_nil, ↓A_cons, ↓reduceIte, Nat.reduceEqDiff]
    refine Tr.seqK fun K9 hK9 => ?_
    have hnl : (sg.drop n).length = sg.length - n := List.length_drop ..
    have hnn := hbd.1
    refine Tr.rg hcx [] _ [none] rfl rfl rfl ?_
    simp -implicitDefEqProofs (maxSteps := 2000000) (disch := first | omega | (simp only [go_sem, List.length_append, List.length_drop, List.length_take, hp, hDl, ofT_len, nodT_len] <;> omega) | decide) only [go_sem, ↓reduceIte, Nat.reduceEqDiff, reduceCtorEq, Nat.reduceLT, Nat.reduceBEq, Nat.reduceAdd, Nat.reduceSub, Nat.reduceMul, Nat.reduceMod, b1, b3]
    refine hK9 _ ?_
    clear hK9 K9
    refine Tr.kp [1, 2, 4, 10, 13] ?_
    simp only [pk_cons, pk_nil, ↓A_cons, ↓reduceIte, Nat.reduceEqDiff]
    refine Tr.seqK fun K10 hK10 => ?_
    refine Tr.seqK fun K11 hK11 => ?_
    by_cases b4 : x < ((0 : Nat) : Int)
    ·
     refine Tr.rgD hcx hMOD [] [some 40, some 41, some 42, some 43, some 44, some 45, some 46, some 47, some 48, some 49, some 50, some 51, some 52, some 53, some 54, some 55] [] rfl rfl rfl rfl ?_
     simp -implicitDefEqProofs (maxSteps := 2000000) (disch := first | omega | (simp only [go_sem, List.length_append, List.length_drop, List.length_take, hp, hDl, ofT_len, nodT_len] <;> omega) | decide) only [go_sem, ↓reduceIte, Nat.reduceEqDiff, reduceCtorEq, Nat.reduceLT, Nat.reduceBEq, Nat.reduceAdd, Nat.reduceSub, Nat.reduceMul, Nat.reduceMod, b1, b3, b4, i_shl, Nat.one_mul, hi0, hi2]
     with_reducible refine And.intro ?_ ?_
     · exact rfl
     refine hK11 _ ?_
     clear hK11 K11
     refine Tr.kp [1, 2, 4, 10, 13, 55] ?_
     simp only [pk_cons, pk_nil, ↓A_cons, ↓reduceIte, Nat.reduceEqDiff]
     refine Tr.condG fun KT KF hT hF => ?_
     simp only [ev_tmp, ev_const, ↓A_cons, ↓reduceIte, Nat.reduceEqDiff, reduceCtorEq, condG_bool, GB_true, GB_false, decide_eq_true_eq]
     refine hT ?_
     clear hT hF KT KF
     refine Tr.seqK fun K12 hK12 => ?_
     refine Tr.rg hcx [] _ [] rfl rfl rfl ?_
     simp -implicitDefEqProofs (maxSteps := 2000000) (disch := first | omega | (simp only [go_sem, List.length_append, List.length_drop, List.length_take, hp, hDl, ofT_len, nodT_len] <;> omega) | decide) only [go_sem, ↓reduceIte, Nat.reduceEqDiff, reduceCtorEq, Nat.reduceLT, Nat.reduceBEq, Nat.reduceAdd, Nat.reduceSub, Nat.reduceMul, Nat.reduceMod, b1, b3, b4]
     refine hK12 _ ?_
     clear hK12 K12
     refine Tr.kp [8, 9] ?_
     simp only [pk_cons, pk_nil, ↓A_cons, ↓reduceIte, Nat.reduceEqDiff]
     refine Tr.ret ?_
     simp -implicitDefEqProofs (disch := first | omega | (simp only [go_sem, List.length_append, List.length_drop, List.length_take, hp, hDl, ofT_len, nodT_len] <;> omega) | decide) only [go_sem, ↓reduceIte, Nat.reduceEqDiff, reduceCtorEq]
     all_goals (first | (rw [ver_1 b1]; rfl) | (rw [ver_4 hk6 (by omega)]; rfl) | (rw [ver_e hk6 (by omega) hg b3]; rfl) | (rw [ver_2 hk6 (by omega) hg (by first | exact Or.inl b4 | exact Or.inr (Or.inl b5) | exact Or.inr (Or.inr b6))]; rfl) | (rw [ver_z hk6 (by omega) hg hik b6o, rootV, ← hD, if_pos z0]; rfl) | (rw [ver_z hk6 (by omega) hg hik b6o, rootV, ← hD, if_neg z0]; rfl))
    ·
     by_cases b5 : ((2 ^ k : Nat) : Int) ≤ x
     ·
      skip
      refine Tr.rgD hcx hMOD [] [some 40, some 41, some 42, some 43, some 44, some 45, some 46, some 47, some 48, some 49, some 50, some 51, some 52, some 53, some 54, some 55] [] rfl rfl rfl rfl ?_
      simp -implicitDefEqProofs (maxSteps := 2000000) (disch := first | omega | (simp only [go_sem, List.length_append, List.length_drop, List.length_take, hp, hDl, ofT_len, nodT_len] <;> omega) | decide) only [go_sem, ↓reduceIte, Nat.reduceEqDiff, reduceCtorEq, Nat.reduceLT, Nat.reduceBEq, Nat.reduceAdd, Nat.reduceSub, Nat.reduceMul, Nat.reduceMod, b1, b3, b4, b5, i_shl, Nat.one_mul, hi0, hi2]
      with_reducible refine And.intro ?_ ?_
      · exact rfl
      refine hK11 _ ?_
      clear hK11 K11
      refine Tr.kp [1, 2, 4, 10, 13, 55] ?_
      simp only [pk_cons, pk_nil, ↓A_cons, ↓reduceIte, Nat.reduceEqDiff]
      refine Tr.condG fun KT KF hT hF => ?_
      simp only [ev_tmp, ev_const, ↓A_cons, ↓reduceIte, Nat.reduceEqDiff, reduceCtorEq, condG_bool, GB_true, GB_false, decide_eq_true_eq]
      refine hT ?_
      clear hT hF KT KF
      refine Tr.seqK fun K13 hK13 => ?_
      refine Tr.rg hcx [] _ [] rfl rfl rfl ?_
      simp -implicitDefEqProofs (maxSteps := 2000000) (disch := first | omega | (simp only [go_sem, List.length_append, List.length_drop, List.length_take, hp, hDl, ofT_len, nodT_len] <;> omega) | decide) only [go_sem, ↓reduceIte, Nat.reduceEqDiff, reduceCtorEq, Nat.reduceLT, Nat.reduceBEq, Nat.reduceAdd, Nat.reduceSub, Nat.reduceMul, Nat.reduceMod, b1, b3, b4, b5]
      refine hK13 _ ?_
      clear hK13 K13
      refine Tr.kp [8, 9] ?_
      simp only [pk_cons, pk_nil, ↓A_cons, ↓reduceIte, Nat.reduceEqDiff]
      refine Tr.ret ?_
      simp -implicitDefEqProofs (disch := first | omega | (simp only [go_sem, List.length_append, List.length_drop, List.length_take, hp, hDl, ofT_len, nodT_len] <;> omega) | decide) only [go_sem, ↓reduceIte, Nat.reduceEqDiff, reduceCtorEq]
      all_goals (first | (rw [ver_1 b1]; rfl) | (rw [ver_4 hk6 (by omega)]; rfl) | (rw [ver_e hk6 (by omega) hg b3]; rfl) | (rw [ver_2 hk6 (by omega) hg (by first | exact Or.inl b4 | exact Or.inr (Or.inl b5) | exact Or.inr (Or.inr b6))]; rfl) | (rw [ver_z hk6 (by omega) hg hik b6o, rootV, ← hD, if_pos z0]; rfl) | (rw [ver_z hk6 (by omega) hg hik b6o, rootV, ← hD, if_neg z0]; rfl))
     ·
      obtain ⟨i, rfl⟩ : ∃ i : Nat, x = (i : Int) := ⟨x.toNat, by omega⟩
      have hik : i < 2 ^ k := by omega
      have hi0 : (i < 0) = False := by simp
      have hi2 : (2 ^ k ≤ i) = False := eq_false (by omega)
      have hi64 : i < 64 := by omega
      by_cases b6 : (sg.drop n).length = (68 + k) * 16
      ·
       have b6o := b6
       have hml : m.length ≤ 1048576 := by omega
       have e16 : pu 16 [.agg (cl bC p), .val (nI i), .val (str m)] = some (.agg (cl bC (msgT p (i : Int) m))) := h16 _ (i : Int) m hp (by omega) hml
       have hmsl := msgT_len p (i : Int) m
       have e10 := h10 _ hmsl
       obtain ⟨D, hD⟩ : ∃ D, D = digT (msgT p (i : Int) m) := ⟨_, rfl⟩
       rw [← hD] at e10
       have hDl : D.length = 68 := by rw [hD]; exact digT_len _
       have hD4 : ∀ c, c < 68 → gt D c < 4 := fun c hc => by rw [hD]; exact digT_lt _ c hc
       have hat : ∀ c, c < 68 + k → (at16 (sg.drop n) c).length = 16 := fun c hc => at16_len (by omega)
       have hev : ∀ c, c < 68 → (endV i D (sg.drop n) c).length = 16 := fun c hc => endV_len (by omega)
       have hcv : ∀ a, a ≤ 68 → (catV (endV i D (sg.drop n)) a).length = 16 * a := fun a ha => catV_len' a fun c hc => hev c (by omega)
       have hlv := leafV_len (endV i D (sg.drop n))
       have hup := fun l => upR_len i (sg.drop n) hlv l
       have hnk := hnl
       have e38 := h38 i D (sg.drop n) (by omega) hDl hD4 ⟨by omega, by omega⟩
       refine Tr.rgD hcx hMOD [] [some 40, some 41, some 42, some 43, some 44, some 45, some 46, some 47, some 48, some 49, some 50, some 51, some 52, some 53, some 54, some 55] [] rfl rfl rfl rfl ?_
       simp -implicitDefEqProofs (maxSteps := 2000000) (disch := first | omega | (simp only [go_sem, List.length_append, List.length_drop, List.length_take, hp, hDl, ofT_len, nodT_len] <;> omega) | decide) only [go_sem, ↓reduceIte, Nat.reduceEqDiff, reduceCtorEq, Nat.reduceLT, Nat.reduceBEq, Nat.reduceAdd, Nat.reduceSub, Nat.reduceMul, Nat.reduceMod, b1, b3, b4, b5, b6, i_shl, Nat.one_mul, hi0, hi2]
       with_reducible refine And.intro ?_ ?_
       · exact rfl
       refine hK11 _ ?_
       clear hK11 K11
       refine Tr.kp [1, 2, 4, 10, 13, 55] ?_
       simp only [pk_cons, pk_nil, ↓A_cons, ↓reduceIte, Nat.reduceEqDiff]
       refine Tr.condG fun KT KF hT hF => ?_
       simp only [ev_tmp, ev_const, ↓A_cons, ↓reduceIte, Nat.reduceEqDiff, reduceCtorEq, condG_bool, GB_true, GB_false, decide_eq_true_eq]
       refine hF ?_
       clear hT hF KT KF
       refine Tr.skip ?_
       refine hK10 _ ?_
       clear hK10 K10
       refine Tr.kp [1, 2, 4, 10, 13] ?_
       simp only [pk_cons, pk_nil, ↓A_cons, ↓reduceIte, Nat.reduceEqDiff]
       refine Tr.seqK fun K14 hK14 => ?_
       refine Tr.rg hcx [] _ [none] rfl rfl rfl ?_
       simp -implicitDefEqProofs (maxSteps := 2000000) (disch := first | omega | (simp only [go_sem, List.length_append, List.length_drop, List.length_take, hp, hDl, ofT_len, nodT_len] <;> omega) | decide) only [go_sem, ↓reduceIte, Nat.reduceEqDiff, reduceCtorEq, Nat.reduceLT, Nat.reduceBEq, Nat.reduceAdd, Nat.reduceSub, Nat.reduceMul, Nat.reduceMod, b1, b3, b4, b5, b6]
       refine hK14 _ ?_
       clear hK14 K14
       refine Tr.kp [1, 2, 4, 10, 14] ?_
       simp only [pk_cons, pk_nil, ↓A_cons, ↓reduceIte, Nat.reduceEqDiff]
       refine Tr.seqK fun K15 hK15 => ?_
       refine Tr.rg hcx [] _ [none] rfl rfl rfl ?_
       simp -implicitDefEqProofs (maxSteps := 2000000) (disch := first | omega | (simp only [go_sem, List.length_append, List.length_drop, List.length_take, hp, hDl, ofT_len, nodT_len] <;> omega) | decide) only [go_sem, ↓reduceIte, Nat.reduceEqDiff, reduceCtorEq, Nat.reduceLT, Nat.reduceBEq, Nat.reduceAdd, Nat.reduceSub, Nat.reduceMul, Nat.reduceMod, b1, b3, b4, b5, b6, e16, e10]
       refine hK15 _ ?_
       clear hK15 K15
       refine Tr.kp [1, 4, 10, 14, 15] ?_
       simp only [pk_cons, pk_nil, ↓A_cons, ↓reduceIte, Nat.reduceEqDiff]
       refine Tr.seqK fun K16 hK16 => ?_
       refine Tr.rg hcx [] _ [none] rfl rfl rfl ?_
       simp -implicitDefEqProofs (maxSteps := 2000000) (disch := first | omega | (simp only [go_sem, List.length_append, List.length_drop, List.length_take, hp, hDl, ofT_len, nodT_len] <;> omega) | decide) only [go_sem, ↓reduceIte, Nat.reduceEqDiff, reduceCtorEq, Nat.reduceLT, Nat.reduceBEq, Nat.reduceAdd, Nat.reduceSub, Nat.reduceMul, Nat.reduceMod, b1, b3, b4, b5, b6, List.map_cons, List.map_nil, List.drop_zero, hno, en38, e38]
       refine hK16 _ ?_
       clear hK16 K16
       refine Tr.kp [1, 4, 10, 14, 16] ?_
       simp only [pk_cons, pk_nil, ↓A_cons, ↓reduceIte, Nat.reduceEqDiff]
       refine Tr.seqK fun K17 hK17 => ?_
       refine Tr.seqK fun K18 hK18 => ?_
       refine Tr.rg hcx [] _ [] rfl rfl rfl ?_
       simp -implicitDefEqProofs (maxSteps := 2000000) (disch := first | omega | (simp only [go_sem, List.length_append, List.length_drop, List.length_take, hp, hDl, ofT_len, nodT_len] <;> omega) | decide) only [go_sem, ↓reduceIte, Nat.reduceEqDiff, reduceCtorEq, Nat.reduceLT, Nat.reduceBEq, Nat.reduceAdd, Nat.reduceSub, Nat.reduceMul, Nat.reduceMod, b1, b3, b4, b5, b6]
       refine hK18 _ ?_
       clear hK18 K18
       refine Tr.kp [4, 10, 14, 16, 64, 65] ?_
       simp only [pk_cons, pk_nil, ↓A_cons, ↓reduceIte, Nat.reduceEqDiff]
       refine Tr.blk ?_
       refine Tr.loopI (α := Nat) (fun a => [(4, ?v4_47), (10, ?v10_47), (14, ?v14_47), (16, ?v16_47), (64, ?v64_47), (65, .val (nI a))]) (fun a => [some (cl bC p), some [.val (nI i)], some [sl bC .no (sg.drop n)], some [.fn 37 [.bp 2 0]], some [sl nC .no D], some (cl bC (upR i (sg.drop n) (leafV (endV i D (sg.drop n))) a))]) (fun a => a ≤ k) (fun a => k - a) (0) (Nat.zero_le _) ?le_47 ?hh_47 ?bd_47
       case hh_47 => exact rfl
       case le_47 => (simp only [Le_nil, Le_cons, ↓A_cons, ↓reduceIte, Nat.reduceEqDiff, reduceCtorEq, CLe_refl, CLe_top, CLe_full, CLe_nil, CLe_own, and_true, true_and]; all_goals (repeat' first | exact CLe.refl _ | exact True.intro | (refine CLe_sln ?_; first | with_reducible rfl | (simp only [List.take_zero]; done) | (rfl; done)) | exact CLe_nI (by omega) | exact CLe_int (by omega) | exact CLe_inI (by omega) | exact CLe_nIi (by omega) | with_reducible apply And.intro))
       case bd_47 =>
        rintro l hl
        refine Tr.seqK fun K19 hK19 => ?_
        refine Tr.rg hcx [] _ [] rfl rfl rfl ?_
        simp -implicitDefEqProofs (maxSteps := 2000000) (disch := first | omega | (simp only [go_sem, List.length_append, List.length_drop, List.length_take, hp, hDl, ofT_len, nodT_len] <;> omega) | decide) only [go_sem, ↓reduceIte, Nat.reduceEqDiff, reduceCtorEq, Nat.reduceLT, Nat.reduceBEq, Nat.reduceAdd, Nat.reduceSub, Nat.reduceMul, Nat.reduceMod, b1, b3, b4, b5, b6]
        refine hK19 _ ?_
        clear hK19 K19
        refine Tr.kp [4, 10, 14, 16, 64, 65, 66] ?_
        simp only [pk_cons, pk_nil, ↓A_cons, ↓reduceIte, Nat.reduceEqDiff]
        refine Tr.seqK fun K20 hK20 => ?_
        refine Tr.condG fun KT KF hT hF => ?_
        simp only [ev_tmp, ev_const, ↓A_cons, ↓reduceIte, Nat.reduceEqDiff, reduceCtorEq, condG_bool, GB_true, GB_false, decide_eq_true_eq]
        refine GB.dec (fun hc66 => hT ?_) (fun hc66 => hF ?_)
        ·
         clear hT hF KT KF
         have hil : i / 2 ^ l ≤ i := Nat.div_le_self _ _
         have ha := hat (68 + l) (by omega)
         have hul := hup l
         have e37 := h37 (68 + l) (sg.drop n) ⟨by omega, by omega⟩
         have e43 := h40 _ _ ha hul
         have e43b := h40 _ _ hul ha
         refine Tr.skip ?_
         refine hK20 _ ?_
         clear hK20 K20
         refine Tr.kp [4, 10, 14, 16, 64, 65] ?_
         simp only [pk_cons, pk_nil, ↓A_cons, ↓reduceIte, Nat.reduceEqDiff]
         refine Tr.seqK fun K21 hK21 => ?_
         refine Tr.blk ?_
         refine Tr.seqK fun K22 hK22 => ?_
         refine Tr.rg hcx [1000067] _ [] rfl rfl rfl ?_
         simp -implicitDefEqProofs (maxSteps := 2000000) (disch := first | omega | (simp only [go_sem, List.length_append, List.length_drop, List.length_take, hp, hDl, ofT_len, nodT_len] <;> omega) | decide) only [go_sem, ↓reduceIte, Nat.reduceEqDiff, reduceCtorEq, Nat.reduceLT, Nat.reduceBEq, Nat.reduceAdd, Nat.reduceSub, Nat.reduceMul, Nat.reduceMod, b1, b3, b4, b5, b6]
         refine hK22 _ ?_
         clear hK22 K22
         refine Tr.kp [4, 10, 14, 16, 17, 64, 65] ?_
         simp only [pk_cons, pk_nil, ↓A_cons, ↓reduceIte, Nat.reduceEqDiff]
         refine Tr.seqK fun K23 hK23 => ?_
         by_cases y0 : i / 2 ^ l % 2 = 1
         ·
          refine Tr.rg hcx [] _ [] rfl rfl rfl ?_
          simp -implicitDefEqProofs (maxSteps := 2000000) (disch := first | omega | (simp only [go_sem, List.length_append, List.length_drop, List.length_take, hp, hDl, ofT_len, nodT_len] <;> omega) | decide) only [go_sem, ↓reduceIte, Nat.reduceEqDiff, reduceCtorEq, Nat.reduceLT, Nat.reduceBEq, Nat.reduceAdd, Nat.reduceSub, Nat.reduceMul, Nat.reduceMod, b1, b3, b4, b5, b6, y0, i_shr, i_and1]
          refine hK23 _ ?_
          clear hK23 K23
          refine Tr.kp [4, 10, 14, 16, 17, 64, 65, 72] ?_
          simp only [pk_cons, pk_nil, ↓A_cons, ↓reduceIte, Nat.reduceEqDiff]
          refine Tr.condG fun KT KF hT hF => ?_
          simp only [ev_tmp, ev_const, ↓A_cons, ↓reduceIte, Nat.reduceEqDiff, reduceCtorEq, condG_bool, GB_true, GB_false, decide_eq_true_eq]
          refine hT ?_
          clear hT hF KT KF
          refine Tr.rgD hcx hMOD [] _ [] rfl rfl rfl rfl ?_
          simp -implicitDefEqProofs (maxSteps := 2000000) (disch := first | omega | (simp only [go_sem, List.length_append, List.length_drop, List.length_take, hp, hDl, ofT_len, nodT_len] <;> omega) | decide) only [go_sem, ↓reduceIte, Nat.reduceEqDiff, reduceCtorEq, Nat.reduceLT, Nat.reduceBEq, Nat.reduceAdd, Nat.reduceSub, Nat.reduceMul, Nat.reduceMod, b1, b3, b4, b5, b6, y0, List.map_cons, List.map_nil, List.drop_zero, hno, e37, e43]
          with_reducible refine And.intro ?_ ?_
          · exact rfl
          refine hK21 _ ?_
          clear hK21 K21
          refine Tr.kp [4, 10, 14, 16, 64, 65] ?_
          simp only [pk_cons, pk_nil, ↓A_cons, ↓reduceIte, Nat.reduceEqDiff]
          refine Tr.rg hcx [] _ [] rfl rfl rfl ?_
          simp -implicitDefEqProofs (maxSteps := 2000000) (disch := first | omega | (simp only [go_sem, List.length_append, List.length_drop, List.length_take, hp, hDl, ofT_len, nodT_len] <;> omega) | decide) only [go_sem, ↓reduceIte, Nat.reduceEqDiff, reduceCtorEq, Nat.reduceLT, Nat.reduceBEq, Nat.reduceAdd, Nat.reduceSub, Nat.reduceMul, Nat.reduceMod, b1, b3, b4, b5, b6, y0]
          refine ⟨l + 1, ⟨by omega, by first | omega | (simp only []; omega)⟩, ?_, by dsimp only; first | rw [up_T y0] | rw [up_F y0]⟩
          (simp only [Le_nil, Le_cons, ↓A_cons, ↓reduceIte, Nat.reduceEqDiff, reduceCtorEq, CLe_refl, CLe_top, CLe_full, CLe_nil, CLe_own, and_true, true_and]; all_goals (repeat' first | exact CLe.refl _ | exact True.intro | (refine CLe_sln ?_; first | with_reducible rfl | (simp only [List.take_zero]; done) | (rfl; done)) | exact CLe_nI (by omega) | exact CLe_int (by omega) | exact CLe_inI (by omega) | exact CLe_nIi (by omega) | with_reducible apply And.intro))
         ·
          refine Tr.rg hcx [] _ [] rfl rfl rfl ?_
          simp -implicitDefEqProofs (maxSteps := 2000000) (disch := first | omega | (simp only [go_sem, List.length_append, List.length_drop, List.length_take, hp, hDl, ofT_len, nodT_len] <;> omega) | decide) only [go_sem, ↓reduceIte, Nat.reduceEqDiff, reduceCtorEq, Nat.reduceLT, Nat.reduceBEq, Nat.reduceAdd, Nat.reduceSub, Nat.reduceMul, Nat.reduceMod, b1, b3, b4, b5, b6, y0, i_shr, i_and1]
          refine hK23 _ ?_
          clear hK23 K23
          refine Tr.kp [4, 10, 14, 16, 17, 64, 65, 72] ?_
          simp only [pk_cons, pk_nil, ↓A_cons, ↓reduceIte, Nat.reduceEqDiff]
          refine Tr.condG fun KT KF hT hF => ?_
          simp only [ev_tmp, ev_const, ↓A_cons, ↓reduceIte, Nat.reduceEqDiff, reduceCtorEq, condG_bool, GB_true, GB_false, decide_eq_true_eq]
          refine hF ?_
          clear hT hF KT KF
          refine Tr.rgD hcx hMOD [] _ [] rfl rfl rfl rfl ?_
          simp -implicitDefEqProofs (maxSteps := 2000000) (disch := first | omega | (simp only [go_sem, List.length_append, List.length_drop, List.length_take, hp, hDl, ofT_len, nodT_len] <;> omega) | decide) only [go_sem, ↓reduceIte, Nat.reduceEqDiff, reduceCtorEq, Nat.reduceLT, Nat.reduceBEq, Nat.reduceAdd, Nat.reduceSub, Nat.reduceMul, Nat.reduceMod, b1, b3, b4, b5, b6, y0, List.map_cons, List.map_nil, List.drop_zero, hno, e37, e43b]
          with_reducible refine And.intro ?_ ?_
          · exact rfl
          refine hK21 _ ?_
          clear hK21 K21
          refine Tr.kp [4, 10, 14, 16, 64, 65] ?_
          simp only [pk_cons, pk_nil, ↓A_cons, ↓reduceIte, Nat.reduceEqDiff]
          refine Tr.rg hcx [] _ [] rfl rfl rfl ?_
          simp -implicitDefEqProofs (maxSteps := 2000000) (disch := first | omega | (simp only [go_sem, List.length_append, List.length_drop, List.length_take, hp, hDl, ofT_len, nodT_len] <;> omega) | decide) only [go_sem, ↓reduceIte, Nat.reduceEqDiff, reduceCtorEq, Nat.reduceLT, Nat.reduceBEq, Nat.reduceAdd, Nat.reduceSub, Nat.reduceMul, Nat.reduceMod, b1, b3, b4, b5, b6, y0]
          refine ⟨l + 1, ⟨by omega, by first | omega | (simp only []; omega)⟩, ?_, by dsimp only; first | rw [up_T y0] | rw [up_F y0]⟩
          (simp only [Le_nil, Le_cons, ↓A_cons, ↓reduceIte, Nat.reduceEqDiff, reduceCtorEq, CLe_refl, CLe_top, CLe_full, CLe_nil, CLe_own, and_true, true_and]; all_goals (repeat' first | exact CLe.refl _ | exact True.intro | (refine CLe_sln ?_; first | with_reducible rfl | (simp only [List.take_zero]; done) | (rfl; done)) | exact CLe_nI (by omega) | exact CLe_int (by omega) | exact CLe_inI (by omega) | exact CLe_nIi (by omega) | with_reducible apply And.intro))
        ·
         clear hT hF KT KF
         obtain rfl : l = k := by omega
         have hul := hup l
         refine Tr.exit ?_
         refine hK17 _ ?_
         clear hK20 K20 hK17 K17
         refine Tr.kp [4, 10, 16] ?_
         simp only [pk_cons, pk_nil, ↓A_cons, ↓reduceIte, Nat.reduceEqDiff]
         refine Tr.seqK fun K24 hK24 => ?_
         refine Tr.seqK fun K25 hK25 => ?_
         by_cases z0 : upR i (sg.drop n) (leafV (endV i D (sg.drop n))) l = p
         ·
          refine Tr.rg hcx [] _ [] rfl rfl rfl ?_
          simp -implicitDefEqProofs (maxSteps := 2000000) (disch := first | omega | (simp only [go_sem, List.length_append, List.length_drop, List.length_take, hp, hDl, ofT_len, nodT_len] <;> omega) | decide) only [go_sem, ↓reduceIte, Nat.reduceEqDiff, reduceCtorEq, Nat.reduceLT, Nat.reduceBEq, Nat.reduceAdd, Nat.reduceSub, Nat.reduceMul, Nat.reduceMod, b1, b3, b4, b5, b6, z0, eq23]
          refine hK25 _ ?_
          clear hK25 K25
          refine Tr.kp [10, 88] ?_
          simp only [pk_cons, pk_nil, ↓A_cons, ↓reduceIte, Nat.reduceEqDiff]
          refine Tr.condG fun KT KF hT hF => ?_
          simp only [ev_tmp, ev_const, ↓A_cons, ↓reduceIte, Nat.reduceEqDiff, reduceCtorEq, condG_bool, GB_true, GB_false, decide_eq_true_eq]
          refine hF ?_
          clear hT hF KT KF
          refine Tr.skip ?_
          refine hK24 _ ?_
          clear hK24 K24
          refine Tr.kp [10] ?_
          simp only [pk_cons, pk_nil, ↓A_cons, ↓reduceIte, Nat.reduceEqDiff]
          refine Tr.seqK fun K26 hK26 => ?_
          refine Tr.rg hcx [1000089] _ [] rfl rfl rfl ?_
          simp -implicitDefEqProofs (maxSteps := 2000000) (disch := first | omega | (simp only [go_sem, List.length_append, List.length_drop, List.length_take, hp, hDl, ofT_len, nodT_len] <;> omega) | decide) only [go_sem, ↓reduceIte, Nat.reduceEqDiff, reduceCtorEq, Nat.reduceLT, Nat.reduceBEq, Nat.reduceAdd, Nat.reduceSub, Nat.reduceMul, Nat.reduceMod, b1, b3, b4, b5, b6, z0]
          refine hK26 _ ?_
          clear hK26 K26
          refine Tr.kp [8, 9] ?_
          simp only [pk_cons, pk_nil, ↓A_cons, ↓reduceIte, Nat.reduceEqDiff]
          refine Tr.ret ?_
          simp -implicitDefEqProofs (disch := first | omega | (simp only [go_sem, List.length_append, List.length_drop, List.length_take, hp, hDl, ofT_len, nodT_len] <;> omega) | decide) only [go_sem, ↓reduceIte, Nat.reduceEqDiff, reduceCtorEq]
          all_goals (first | (rw [ver_1 b1]; rfl) | (rw [ver_4 hk6 (by omega)]; rfl) | (rw [ver_e hk6 (by omega) hg b3]; rfl) | (rw [ver_2 hk6 (by omega) hg (by first | exact Or.inl b4 | exact Or.inr (Or.inl b5) | exact Or.inr (Or.inr b6))]; rfl) | (rw [ver_z hk6 (by omega) hg hik b6o, rootV, ← hD, if_pos z0]; rfl) | (rw [ver_z hk6 (by omega) hg hik b6o, rootV, ← hD, if_neg z0]; rfl))
         ·
          refine Tr.rg hcx [] _ [] rfl rfl rfl ?_
          simp -implicitDefEqProofs (maxSteps := 2000000) (disch := first | omega | (simp only [go_sem, List.length_append, List.length_drop, List.length_take, hp, hDl, ofT_len, nodT_len] <;> omega) | decide) only [go_sem, ↓reduceIte, Nat.reduceEqDiff, reduceCtorEq, Nat.reduceLT, Nat.reduceBEq, Nat.reduceAdd, Nat.reduceSub, Nat.reduceMul, Nat.reduceMod, b1, b3, b4, b5, b6, z0, eq23]
          refine hK25 _ ?_
          clear hK25 K25
          refine Tr.kp [10, 88] ?_
          simp only [pk_cons, pk_nil, ↓A_cons, ↓reduceIte, Nat.reduceEqDiff]
          refine Tr.condG fun KT KF hT hF => ?_
          simp only [ev_tmp, ev_const, ↓A_cons, ↓reduceIte, Nat.reduceEqDiff, reduceCtorEq, condG_bool, GB_true, GB_false, decide_eq_true_eq]
          refine hT ?_
          clear hT hF KT KF
          refine Tr.seqK fun K27 hK27 => ?_
          refine Tr.rg hcx [] _ [] rfl rfl rfl ?_
          simp -implicitDefEqProofs (maxSteps := 2000000) (disch := first | omega | (simp only [go_sem, List.length_append, List.length_drop, List.length_take, hp, hDl, ofT_len, nodT_len] <;> omega) | decide) only [go_sem, ↓reduceIte, Nat.reduceEqDiff, reduceCtorEq, Nat.reduceLT, Nat.reduceBEq, Nat.reduceAdd, Nat.reduceSub, Nat.reduceMul, Nat.reduceMod, b1, b3, b4, b5, b6, z0]
          refine hK27 _ ?_
          clear hK27 K27
          refine Tr.kp [8, 9] ?_
          simp only [pk_cons, pk_nil, ↓A_cons, ↓reduceIte, Nat.reduceEqDiff]
          refine Tr.ret ?_
          simp -implicitDefEqProofs (disch := first | omega | (simp only [go_sem, List.length_append, List.length_drop, List.length_take, hp, hDl, ofT_len, nodT_len] <;> omega) | decide) only [go_sem, ↓reduceIte, Nat.reduceEqDiff, reduceCtorEq]
          all_goals (first | (rw [ver_1 b1]; rfl) | (rw [ver_4 hk6 (by omega)]; rfl) | (rw [ver_e hk6 (by omega) hg b3]; rfl) | (rw [ver_2 hk6 (by omega) hg (by first | exact Or.inl b4 | exact Or.inr (Or.inl b5) | exact Or.inr (Or.inr b6))]; rfl) | (rw [ver_z hk6 (by omega) hg hik b6o, rootV, ← hD, if_pos z0]; rfl) | (rw [ver_z hk6 (by omega) hg hik b6o, rootV, ← hD, if_neg z0]; rfl))
      ·
       skip
       refine Tr.rgD hcx hMOD [] [some 40, some 41, some 42, some 43, some 44, some 45, some 46, some 47, some 48, some 49, some 50, some 51, some 52, some 53, some 54, some 55] [] rfl rfl rfl rfl ?_
       simp -implicitDefEqProofs (maxSteps := 2000000) (disch := first | omega | (simp only [go_sem, List.length_append, List.length_drop, List.length_take, hp, hDl, ofT_len, nodT_len] <;> omega) | decide) only [go_sem, ↓reduceIte, Nat.reduceEqDiff, reduceCtorEq, Nat.reduceLT, Nat.reduceBEq, Nat.reduceAdd, Nat.reduceSub, Nat.reduceMul, Nat.reduceMod, b1, b3, b4, b5, b6, i_shl, Nat.one_mul, hi0, hi2]
       with_reducible refine And.intro ?_ ?_
       · exact rfl
       refine hK11 _ ?_
       clear hK11 K11
       refine Tr.kp [1, 2, 4, 10, 13, 55] ?_
       simp only [pk_cons, pk_nil, ↓A_cons, ↓reduceIte, Nat.reduceEqDiff]
       refine Tr.condG fun KT KF hT hF => ?_
       simp only [ev_tmp, ev_const, ↓A_cons, ↓reduceIte, Nat.reduceEqDiff, reduceCtorEq, condG_bool, GB_true, GB_false, decide_eq_true_eq]
       refine hT ?_
       clear hT hF KT KF
       refine Tr.seqK fun K28 hK28 => ?_
       refine Tr.rg hcx [] _ [] rfl rfl rfl ?_
       simp -implicitDefEqProofs (maxSteps := 2000000) (disch := first | omega | (simp only [go_sem, List.length_append, List.length_drop, List.length_take, hp, hDl, ofT_len, nodT_len] <;> omega) | decide) only [go_sem, ↓reduceIte, Nat.reduceEqDiff, reduceCtorEq, Nat.reduceLT, Nat.reduceBEq, Nat.reduceAdd, Nat.reduceSub, Nat.reduceMul, Nat.reduceMod, b1, b3, b4, b5, b6]
       refine hK28 _ ?_
       clear hK28 K28
       refine Tr.kp [8, 9] ?_
       simp only [pk_cons, pk_nil, ↓A_cons, ↓reduceIte, Nat.reduceEqDiff]
       refine Tr.ret ?_
       simp -implicitDefEqProofs (disch := first | omega | (simp only [go_sem, List.length_append, List.length_drop, List.length_take, hp, hDl, ofT_len, nodT_len] <;> omega) | decide) only [go_sem, ↓reduceIte, Nat.reduceEqDiff, reduceCtorEq]
       all_goals (first | (rw [ver_1 b1]; rfl) | (rw [ver_4 hk6 (by omega)]; rfl) | (rw [ver_e hk6 (by omega) hg b3]; rfl) | (rw [ver_2 hk6 (by omega) hg (by first | exact Or.inl b4 | exact Or.inr (Or.inl b5) | exact Or.inr (Or.inr b6))]; rfl) | (rw [ver_z hk6 (by omega) hg hik b6o, rootV, ← hD, if_pos z0]; rfl) | (rw [ver_z hk6 (by omega) hg hik b6o, rootV, ← hD, if_neg z0]; rfl))
   ·
    skip
    refine Tr.rg hcx [] _ [] rfl rfl rfl ?_
    simp -implicitDefEqProofs (maxSteps := 2000000) (disch := first | omega | (simp only [go_sem, List.length_append, List.length_drop, List.length_take, hp, hDl, ofT_len, nodT_len] <;> omega) | decide) only [go_sem, ↓reduceIte, Nat.reduceEqDiff, reduceCtorEq, Nat.reduceLT, Nat.reduceBEq, Nat.reduceAdd, Nat.reduceSub, Nat.reduceMul, Nat.reduceMod, b1, b3]
    refine hK8 _ ?_
    clear hK8 K8
    refine Tr.kp [1, 2, 3, 4, 10, 11, 12, 34] ?_
    simp only [pk_cons, pk_nil, ↓A_cons, ↓reduceIte, Nat.reduceEqDiff]
    refine Tr.condG fun KT KF hT hF => ?_
    simp only [ev_tmp, ev_const, ↓A_cons, ↓reduceIte, Nat.reduceEqDiff, reduceCtorEq, condG_bool, GB_true, GB_false, decide_eq_true_eq]
    refine hT ?_
    clear hT hF KT KF
    refine Tr.seqK fun K29 hK29 => ?_
    refine Tr.rg hcx [1000035] _ [] rfl rfl rfl ?_
    simp -implicitDefEqProofs (maxSteps := 2000000) (disch := first | omega | (simp only [go_sem, List.length_append, List.length_drop, List.length_take, hp, hDl, ofT_len, nodT_len] <;> omega) | decide) only [go_sem, ↓reduceIte, Nat.reduceEqDiff, reduceCtorEq, Nat.reduceLT, Nat.reduceBEq, Nat.reduceAdd, Nat.reduceSub, Nat.reduceMul, Nat.reduceMod, b1, b3]
    refine hK29 _ ?_
    clear hK29 K29
    refine Tr.kp [8, 9] ?_
    simp only [pk_cons, pk_nil, ↓A_cons, ↓reduceIte, Nat.reduceEqDiff]
    refine Tr.ret ?_
    simp -implicitDefEqProofs (disch := first | omega | (simp only [go_sem, List.length_append, List.length_drop, List.length_take, hp, hDl, ofT_len, nodT_len] <;> omega) | decide) only [go_sem, ↓reduceIte, Nat.reduceEqDiff, reduceCtorEq]
    all_goals (first | (rw [ver_1 b1]; rfl) | (rw [ver_4 hk6 (by omega)]; rfl) | (rw [ver_e hk6 (by omega) hg b3]; rfl) | (rw [ver_2 hk6 (by omega) hg (by first | exact Or.inl b4 | exact Or.inr (Or.inl b5) | exact Or.inr (Or.inr b6))]; rfl) | (rw [ver_z hk6 (by omega) hg hik b6o, rootV, ← hD, if_pos z0]; rfl) | (rw [ver_z hk6 (by omega) hg hik b6o, rootV, ← hD, if_neg z0]; rfl))
 ·
  skip
  refine Tr.rg hcx [1000021] _ [] rfl rfl rfl ?_
  simp -implicitDefEqProofs (maxSteps := 2000000) (disch := first | omega | (simp only [go_sem, List.length_append, List.length_drop, List.length_take, hp, hDl, ofT_len, nodT_len] <;> omega) | decide) only [go_sem, ↓reduceIte, Nat.reduceEqDiff, reduceCtorEq, Nat.reduceLT, Nat.reduceBEq, Nat.reduceAdd, Nat.reduceSub, Nat.reduceMul, Nat.reduceMod, b1, e21, b1]
  refine hK3 _ ?_
  clear hK3 K3
  refine Tr.kp [1, 2, 3, 4, 18] ?_
  simp only [pk_cons, pk_nil, ↓A_cons, ↓reduceIte, Nat.reduceEqDiff]
  refine Tr.condG fun KT KF hT hF => ?_
  simp only [ev_tmp, ev_const, ↓A_cons, ↓reduceIte, Nat.reduceEqDiff, reduceCtorEq, condG_bool, GB_true, GB_false, decide_eq_true_eq]
  refine hT ?_
  clear hT hF KT KF
  refine Tr.seqK fun K30 hK30 => ?_
  refine Tr.rg hcx [] _ [] rfl rfl rfl ?_
  simp -implicitDefEqProofs (maxSteps := 2000000) (disch := first | omega | (simp only [go_sem, List.length_append, List.length_drop, List.length_take, hp, hDl, ofT_len, nodT_len] <;> omega) | decide) only [go_sem, ↓reduceIte, Nat.reduceEqDiff, reduceCtorEq, Nat.reduceLT, Nat.reduceBEq, Nat.reduceAdd, Nat.reduceSub, Nat.reduceMul, Nat.reduceMod, b1]
  refine hK30 _ ?_
  clear hK30 K30
  refine Tr.kp [8, 9] ?_
  simp only [pk_cons, pk_nil, ↓A_cons, ↓reduceIte, Nat.reduceEqDiff]
  refine Tr.ret ?_
  simp -implicitDefEqProofs (disch := first | omega | (simp only [go_sem, List.length_append, List.length_drop, List.length_take, hp, hDl, ofT_len, nodT_len] <;> omega) | decide) only [go_sem, ↓reduceIte, Nat.reduceEqDiff, reduceCtorEq]
  all_goals (first | (rw [ver_1 b1]; rfl) | (rw [ver_4 hk6 (by omega)]; rfl) | (rw [ver_e hk6 (by omega) hg b3]; rfl) | (rw [ver_2 hk6 (by omega) hg (by first | exact Or.inl b4 | exact Or.inr (Or.inl b5) | exact Or.inr (Or.inr b6))]; rfl) | (rw [ver_z hk6 (by omega) hg hik b6o, rootV, ← hD, if_pos z0]; rfl) | (rw [ver_z hk6 (by omega) hg hik b6o, rootV, ← hD, if_neg z0]; rfl))
end Go.Sx
namespace Go.Sx
open Go.RowKit
theorem noR_bt (b t n : Nat) : (C.bt b t n).noR = .bt b t n := rfl
theorem share_bt (b t n : Nat) : (C.bt b t n).share = .bt b t n := rfl
theorem refBox_bt (b t n : Nat) (l : List C) : refBox (.bt b t n :: l) = refBox l := rfl
def mvBt (t n : Nat) : Option Nat → C
  | some j => .bt j t n
  | none => .top
theorem mvC_bt (ρ : List Nat) (b t n : Nat) : mvC ρ (.bt b t n) = mvBt t n (loc ρ 0 b) := by simp only [mvC]; cases loc ρ 0 b <;> rfl
theorem mvBt_some (t n j : Nat) : mvBt t n (some j) = .bt j t n := rfl
theorem mvBt_none (t n : Nat) : mvBt t n none = .top := rfl
def mvMp : Option Nat → C
  | some j => .mp j
  | none => .top
theorem mvC_mp (ρ : List Nat) (b : Nat) : mvC ρ (.mp b) = mvMp (loc ρ 0 b) := by simp only [mvC]; cases loc ρ 0 b <;> rfl
theorem mvMp_some (j : Nat) : mvMp (some j) = .mp j := rfl
theorem mvMp_none : mvMp none = .top := rfl
theorem fa_bt {P : Program} (a1 b1 : Nat) (z1 : List Value) (fs : Array Field) (b t n : Nat) (i : Nat) (fd : Field) (h : fs[i]? = some fd) : faP P (some ⟨.struct fs, a1, b1, z1⟩) (.bt b t n) i = faQ (td P fd.type) b fd.offset := by
  unfold faP faQ; simp only [h]; rfl
section
variable (cx : Cx) (apps : List Nat) (dsts : List (Option Nat)) (l : List Oper) (id' : Nat) (d : Option Nat) (e : List (Nat × C)) (h : Hp) (fs : List FP) (K : List FP → St → Prop)
def stXo (b off : Nat) (cells : List C) (o : Option C) : Prop := match o with
  | none => False
  | some x => run cx apps dsts l id' (mkE d x e) (h.set b (some (cells.set off x.noR))) ((3, b) :: fs) K
theorem stX_cells (b off : Nat) (cells : List C) : stX cx apps dsts l id' d e h fs K b off (some cells) = stXo cx apps dsts l id' d e h fs K b off cells (cells[off]?) := rfl
theorem stXo_some (b off : Nat) (cells : List C) (x : C) : stXo cx apps dsts l id' d e h fs K b off cells (some x) = run cx apps dsts l id' (mkE d x e) (h.set b (some (cells.set off x.noR))) ((3, b) :: fs) K := rfl
end
@[congr] theorem stXo_congr {cx : Cx} {apps : List Nat} {dsts : List (Option Nat)} {l : List Oper} {id' : Nat} {d : Option Nat} {e : List (Nat × C)} {h : Hp} {fs : List FP} {K : List FP → St → Prop} {b off : Nat} {cells : List C} {p p' : Option C} (hp : p = p') :
    stXo cx apps dsts l id' d e h fs K b off cells p = stXo cx apps dsts l id' d e h fs K b off cells p' := by rw [hp]
attribute [go_sem] stX_cells stXo_some
theorem live_bt (b t n : Nat) (r : List C) : liveC (some (.bt b t n :: r)) = some (.bt b t n :: r) := rfl
theorem noR_mp (b : Nat) : (C.mp b).noR = .mp b := rfl
attribute [go_sem] noR_mp
attribute [go_sem] live_bt noR_bt share_bt refBox_bt
end Go.Sx
