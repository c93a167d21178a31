/-
   And what follows.
-/
import Derived.Test.YtmoaeemdlompaaaDoorPar
set_option linter.unusedSimpArgs false
set_option linter.unusedVariables false
namespace Go.Sx
open Go.RowKit Go.Proofs
set_option maxRecDepth 100000
set_option maxHeartbeats 8000000
def Srt (l : List Leaf) : Prop := ∀ i j, i < j → j < l.length → bl (gt l i).1 (gt l j).1 = true
theorem incT_at {l : List Leaf} : ∀ {n i : Nat}, incT l n = true → 0 < i → i < n → bl (gt l (i - 1)).1 (gt l i).1 = true
  | 0, i, h, h1, h2 => by omega
  | n + 1, i, h, h1, h2 => by
    simp only [incT, Bool.and_eq_true, Bool.or_eq_true, decide_eq_true_eq] at h
    by_cases e : i = n
    · subst e; exact h.2.resolve_left (by omega)
    · exact incT_at h.1 h1 (by omega)
theorem Srt.of {l : List Leaf} (h : incT l l.length = true) : Srt l := fun i j hij hj => by
  obtain ⟨k, rfl⟩ : ∃ k, j = i + 1 + k := ⟨j - (i + 1), by omega⟩
  induction k with
  | zero => have := incT_at h (i := i + 1) (by omega) hj; simpa using this
  | succ k ih =>
    have h1 := ih (by omega) (by omega)
    have h2 := incT_at h (i := i + 1 + (k + 1)) (by omega) hj
    rw [show i + 1 + (k + 1) - 1 = i + 1 + k by omega] at h2
    exact bl_trans h1 h2
theorem valT_srt {l : List Leaf} (h : valT l = 0) : Srt l := by
  apply Srt.of
  unfold valT at h
  split at h
  · cases h
  · split at h
    · assumption
    · cases h
theorem Srt.take {l : List Leaf} (h : Srt l) : ∀ n, n ≤ l.length → ∀ k, (∀ x, x < n → bl (gt l x).1 k = true) → cntT l k n = n
  | 0, _, k, _ => rfl
  | n + 1, hn, k, hk => by rw [cnt_T (by omega) (hk n (by omega)), Srt.take h n (by omega) k (fun x hx => hk x (by omega))]
theorem cnt_stop {l : List Leaf} {k : List UInt8} {i : Nat} : ∀ d, i + d ≤ l.length → (∀ x, i ≤ x → x < l.length → bl (gt l x).1 k = false) → cntT l k (i + d) = cntT l k i
  | 0, _, _ => rfl
  | d + 1, h, h2 => by rw [← Nat.add_assoc, cnt_F (by omega) (h2 _ (by omega) (by omega)), cnt_stop d (by omega) h2]
theorem from_eq {l : List Leaf} {k : List UInt8} {i : Nat} (hs : Srt l) (hi : i ≤ l.length) (h1 : ∀ x, x < i → bl (gt l x).1 k = true) (h2 : ∀ x, i ≤ x → x < l.length → bl (gt l x).1 k = false) : fromT l k = i := by
  obtain ⟨d, hd⟩ : ∃ d, l.length = i + d := ⟨l.length - i, by omega⟩
  unfold fromT
  rw [hd, cnt_stop d (by omega) h2, Srt.take hs i hi k h1]
def fndT (l : List Leaf) (k : List UInt8) : Bool := decide (fromT l k < l.length ∧ (gt l (fromT l k)).1 = k)
theorem cmpB_lt (a b : List UInt8) : (cmpB a b < ((0 : Nat) : Int)) = (bl a b = true) := by
  unfold cmpB; by_cases h : bl a b = true
  · rw [if_pos h]; simp [h]
  · rw [if_neg h]; split <;> simp [h]
theorem cmpB_e0 (a b : List UInt8) : (cmpB a b = 0) = (a = b) := by
  unfold cmpB; by_cases h : bl a b = true
  · rw [if_pos h]
    have : ¬ a = b := fun e => by subst e; rw [bl_irr] at h; cases h
    simp [this]
  · rw [if_neg h]; by_cases e : a = b <;> simp [e]
theorem cmpB_eq (a b : List UInt8) : (cmpB a b = ((0 : Nat) : Int)) = (a = b) := cmpB_e0 a b
theorem fnd_eq {l : List Leaf} {k : List UInt8} {i : Nat} (h : fromT l k = i) (b : Bool) (hb : b = decide (i < l.length ∧ (gt l i).1 = k)) : b = fndT l k := by subst h; exact hb
theorem bs_lo {l : List Leaf} {k : List UInt8} {h : Nat} (hs : Srt l) (hb : bl (gt l h).1 k = true) (hl : h < l.length) : ∀ x, x < h + 1 → bl (gt l x).1 k = true := fun x hx => by
  by_cases e : x = h
  · subst e; exact hb
  · exact bl_trans (hs x h (by omega) hl) hb
theorem bs_hi {l : List Leaf} {k : List UInt8} {h : Nat} (hs : Srt l) (hb : bl (gt l h).1 k = false) : ∀ x, h ≤ x → x < l.length → bl (gt l x).1 k = false := fun x hx hl => by
  by_cases e : x = h
  · subst e; exact hb
  · have h1 := hs h x (by omega) hl
    rw [Bool.eq_false_iff]; intro h2
    rw [bl_trans h1 h2] at hb; cases hb
theorem shr1 (n : Nat) : n >>> 1 = n / 2 := by rw [Nat.shiftRight_eq_div_pow]
theorem X_fc89 {p : Prop} (e : p := by intro KZ hZ; simp -implicitDefEqProofs (disch := first | omega | (simp only [go_sem, lA, lD, lT] <;> omega) | decide) only [go_sem, ↓reduceIte, Nat.reduceEqDiff, reduceCtorEq, Nat.reduceLT, Nat.reduceBEq, Nat.reduceAdd, h90, hy]; with_reducible exact hZ) : p := e
theorem F_fc89 {p : Prop} (e : p := by simp -implicitDefEqProofs (disch := first | omega | (simp only [go_sem, lA, lD, lT] <;> omega) | decide) only [go_sem, ↓reduceIte, Nat.reduceEqDiff, reduceCtorEq]; all_goals (rfl)) : p := e
theorem fc89 {gl : Nat → C} {M : Nat} {pu : Nat → List C → Option C}  (hcx : CxOK (cxP gl M pu))  (h90 : ∀ a b : List UInt8, pu 90 [.val (str a), .val (str b)] = some (.val (.int .i64 (cmpB a b)))) (x : Leaf) (k : List UInt8) : FC Tryd.prog gl 89 [.agg (eC x), .val (str k)] [] (.val (.int .i64 (cmpB x.1 k))) [] := by
 replace hcx := hcx.reN (M := 9)
 refine FC.ofA (cx := cxP gl 9 pu) (rs := [.tmp 4]) rfl Tryd.func89 rfl rfl rfl (by simp only [List.length_cons, List.length_nil]; decide) (by simp only [go_sem]) ?_
 simp only [ini, go_sem]
 have hy := True.intro
 refine Tr.w hcx [] _ [none] rfl rfl rfl ?_ X_fc89
 refine Tr.w hcx [1000008] _ [] rfl rfl rfl ?_ X_fc89
 exact Tr.ret F_fc89
theorem X_fc88 {p : Prop} (e : p := by intro KZ hZ; simp -implicitDefEqProofs (disch := first | omega | (simp only [go_sem, lA, lD, lT] <;> omega) | decide) only [go_sem, ↓reduceIte, Nat.reduceEqDiff, reduceCtorEq, Nat.reduceLT, Nat.reduceBEq, Nat.reduceAdd, h89, shr1, b1, b2, hy]; with_reducible exact hZ) : p := e
theorem F_fc88 {p : Prop} (e : p := by simp -implicitDefEqProofs (disch := first | omega | (simp only [go_sem, lA, lD, lT] <;> omega) | decide) only [go_sem, ↓reduceIte, Nat.reduceEqDiff, reduceCtorEq]; all_goals (all_goals (rw [← fnd_eq hf _ rfl]; simp [hf, b2, cmpB_e0]))) : p := e
theorem fc88 {gl : Nat → C} {M : Nat} {pu : Nat → List C → Option C}  (hcx : CxOK (cxP gl M pu))  (h89 : ∀ (x : Leaf) (k : List UInt8), pu 89 [.agg (eC x), .val (str k)] = some (.val (.int .i64 (cmpB x.1 k)))) (l : List Leaf) (k : List UInt8) (hs : Srt l) (hl : l.length ≤ 1000000) : FC Tryd.prog gl 88 [sl eC .no l, .val (str k), .fn 89 []] [] (.tup [.val (nI (fromT l k)), .val (.bool (fndT l k))]) [] := by
 replace hcx := hcx.reN (M := 49)
 refine FC.ofA (cx := cxP gl 49 pu) (rs := [.tmp 6, .tmp 7]) rfl Tryd.func88 rfl rfl rfl (by simp only [List.length_cons, List.length_nil]; decide) (by simp only [go_sem]) ?_
 simp only [ini, go_sem]
 have b1 := True.intro
 have b2 := True.intro
 have hy := True.intro
 refine Tr.w hcx [] _ [] rfl rfl rfl ?_ X_fc88
 refine Tr.w hcx [1000013] _ [] rfl rfl rfl ?_ X_fc88
 refine Tr.w hcx [1000014] _ [] rfl rfl rfl ?_ X_fc88
 refine Tr.k [0, 1, 2, 8, 9, 10] ?_
 refine Tr.seqK fun K1 hK1 => ?_
 refine Tr.blk ?_
 refine Tr.loopI (α := Nat × Nat) (fun a => [(0, ?v0_1), (1, ?v1_1), (2, ?v2_1), (8, ?v8_1), (9, .val (nI a.1)), (10, .val (nI a.2))]) (fun a => ?h_1) (fun a => a.1 ≤ a.2 ∧ a.2 ≤ l.length ∧ (∀ x, x < a.1 → bl (gt l x).1 k = true) ∧ (∀ x, a.2 ≤ x → x < l.length → bl (gt l x).1 k = false)) (fun a => a.2 - a.1) ((0, l.length)) ⟨Nat.zero_le _, Nat.le_refl _, fun x hx => absurd hx (Nat.not_lt_zero x), fun x h1 h2 => by omega⟩ ?le_1 ?hh_1 ?bd_1
 case hh_1 => exact rfl
 case le_1 => exact LT
 rintro ⟨i, j⟩ ⟨hi, hj, hlo, hhi⟩
 simp only [] at hi hj hlo hhi
 have hh2 : (i + j) / 2 * 2 ≤ i + j := by omega
 have hh3 : i + j < (i + j) / 2 * 2 + 2 := by omega
 obtain ⟨h, hh⟩ : ∃ h, h = (i + j) / 2 := ⟨_, rfl⟩
 rw [← hh] at hh2 hh3
 refine Tr.seqK fun K2 hK2 => ?_
 refine Tr.w hcx [] _ [] rfl rfl rfl ?_ X_fc88
 refine Tr.cD rfl (fun hc17 => ?_) (fun hc17 => ?_)
 ·
  refine Tr.skip ?_
  refine hK2 _ ?_
  refine Tr.blk ?_
  refine Tr.seqK fun K3 hK3 => ?_
  refine Tr.rg hcx [1000023] _ [] rfl rfl rfl ?_
  simp -implicitDefEqProofs (disch := first | omega | (simp only [go_sem, lA, lD, lT] <;> omega) | decide) only [go_sem, ↓reduceIte, Nat.reduceEqDiff, reduceCtorEq, Nat.reduceLT, Nat.reduceBEq, Nat.reduceAdd, h89, shr1, ← hh]
  refine hK3 _ ?_
  by_cases b1 : bl (gt l h).1 k = true
  ·
   have c1 : (cmpB (gt l h).1 k < ((0 : Nat) : Int)) = True := by rw [cmpB_lt, b1]; simp
   have hy := @c1
   refine Tr.w hcx [] _ [] rfl rfl rfl ?_ X_fc88
   refine Tr.cT rfl ?_
   have hy := True.intro
   refine Tr.v hcx [1000033] _ [] rfl rfl rfl ?_ X_fc88
   exact ⟨(h + 1, j), ⟨⟨by simp only []; omega, hj, bs_lo hs b1 (by omega), hhi⟩, O1⟩, LT, rfl⟩
  have c1 : (cmpB (gt l h).1 k < ((0 : Nat) : Int)) = False := by rw [cmpB_lt]; simpa using b1
  replace b1 := Bool.eq_false_iff.2 b1
  have hy := @c1
  refine Tr.w hcx [] _ [] rfl rfl rfl ?_ X_fc88
  refine Tr.cF rfl ?_
  have hy := True.intro
  refine Tr.v hcx [1000034] _ [] rfl rfl rfl ?_ X_fc88
  exact ⟨(i, h), ⟨⟨by simp only []; omega, by simp only []; omega, hlo, bs_hi hs b1⟩, O1⟩, LT, rfl⟩
 refine Tr.exit ?_
 refine hK1 _ ?_
 by_cases b2 : i < l.length
 ·
  have hij : i = j := by omega
  have hf := from_eq hs (show i ≤ l.length by omega) hlo (by rw [hij]; exact hhi)
  have hy := @cmpB_eq
  refine Tr.w hcx [1000035, 1000048] [some 35, some 36, some 37, some 38, some 39, some 40, some 41, some 42, some 43, some 44, some 45, some 46, some 47, some 48, some 6, some 7] [] rfl rfl rfl ?_ X_fc88
  exact Tr.ret F_fc88
 have hij : i = j := by omega
 have hf := from_eq hs (show i ≤ l.length by omega) hlo (by rw [hij]; exact hhi)
 have hy := @cmpB_eq
 refine Tr.w hcx [1000035, 1000048] [some 35, some 36, some 37, some 38, some 39, some 40, some 41, some 42, some 43, some 44, some 45, some 46, some 47, some 48, some 6, some 7] [] rfl rfl rfl ?_ X_fc88
 exact Tr.ret F_fc88
theorem X_fc56 {p : Prop} (e : p := by intro KZ hZ; simp -implicitDefEqProofs (disch := first | omega | (simp only [go_sem, lA, lD, lT] <;> omega) | decide) only [go_sem, ↓reduceIte, Nat.reduceEqDiff, reduceCtorEq, Nat.reduceLT, Nat.reduceBEq, Nat.reduceAdd, e88, hy]; with_reducible exact hZ) : p := e
theorem F_fc56 {p : Prop} (e : p := by simp -implicitDefEqProofs (disch := first | omega | (simp only [go_sem, lA, lD, lT] <;> omega) | decide) only [go_sem, ↓reduceIte, Nat.reduceEqDiff, reduceCtorEq]; all_goals (rfl)) : p := e
theorem fc56 {gl : Nat → C} {M : Nat} {pu : Nat → List C → Option C}  (hcx : CxOK (cxP gl M pu))  (h88 : ∀ (l : List Leaf) (k : List UInt8), Srt l → l.length ≤ 1000000 → pu 88 [sl eC .no l, .val (str k), .fn 89 []] = some (.tup [.val (nI (fromT l k)), .val (.bool (fndT l k))])) (l : List Leaf) (k : List UInt8) (hs : Srt l) (hl : l.length ≤ 1000000) : FC Tryd.prog gl 56 [sl eC .no l, .val (str k)] [] (.val (nI (fromT l k))) [] := by
 replace hcx := hcx.reN (M := 14)
 refine FC.ofA (cx := cxP gl 14 pu) (rs := [.tmp 4]) rfl Tryd.func56 rfl rfl rfl (by simp only [List.length_cons, List.length_nil]; decide) (by simp only [go_sem]) ?_
 simp only [ini, go_sem]
 have hy := True.intro
 have e88 := h88 l k hs hl
 refine Tr.w hcx [] _ [] rfl rfl rfl ?_ X_fc56
 refine Tr.w hcx [1000011, 1000012] _ [] rfl rfl rfl ?_ X_fc56
 refine Tr.w hcx [1000013] _ [] rfl rfl rfl ?_ X_fc56
 exact Tr.ret F_fc56
end Go.Sx
namespace Go.Sx
open Go.RowKit
section
variable {cx : Cx} {Q : Ex → St → Prop} {e : List (Nat × C)} {h : Hp} {c : Code}
theorem Tr.m1 (hcx : CxOK cx) (ρ : List Nat) {e' : List (Nat × C)} {h' : Hp} (H : Tr cx 0 c ⟨A e', h'⟩ Q)
    (hρ : okρ 0 ρ := by exact ⟨by decide, by decide, fun j hj => absurd hj (Nat.not_lt_zero j)⟩)
    (E : ∀ K : List (Nat × C) → Hp → Prop, K e' h' → K (mapE (mvC ρ) e) (mvH ρ h) := by
      intro KZ hZ
      simp -implicitDefEqProofs only [mapE_nil, mapE_cons, atG_mv, mvH_eq, mvHa_nil, mvHa_cons, hget_0, hget_S, Option.map_some, Option.map_none, mvCs_cl, mvCs_f, mvCs_nil, mvCs_cons, mvC_val, mvC_top, mvC_sl, mvC_gv, mvC_sv, mvC_bp, mvC_agg, mvC_kp, mvGv_some, mvGv_none, mvSv_some, mvSv_none, mvBp_some, mvBp_none, loc_nil, loc_cons, ↓reduceIte, Nat.reduceEqDiff, reduceCtorEq, Nat.reduceAdd, Nat.zero_add, Nat.one_ne_zero, Nat.zero_ne_one, mvC_fn, mvC_bt, mvBt_some, mvBt_none, mvC_mp, mvMp_some, mvMp_none]
      with_reducible exact hZ) : Tr cx 0 c ⟨A e, h⟩ Q :=
  Tr.mvA hcx ρ hρ (E (fun x y => Tr cx 0 c ⟨A x, y⟩ Q) H)
end
end Go.Sx
namespace Go.Sx
open Go.RowKit Go.Proofs
set_option maxRecDepth 100000
set_option maxHeartbeats 8000000
theorem nilS_ne {l : List Leaf} (h : l ≠ []) : (sl eC .no l).nilS? = some false := by
  cases l with
  | nil => exact absurd rfl h
  | cons x l => rfl
theorem bsA_leaf0 (u : TypeDesc) (y : Nat) (z : List Value) (hz : z.length = 2) (h1 : z.all (·.oneCell') = true) : bsA (some ⟨u, 2, y, z⟩) 0 [] = some (vp (sl eC .full [])) := by
  unfold bsA
  simp only [hz, h1]
  rw [if_pos ⟨by decide, by decide, trivial, trivial⟩]
  rfl
theorem bsA_dig0 (u : TypeDesc) (y : Nat) (z : List Value) (hz : z.length = 16) (h1 : z.all (·.oneCell') = true) : bsA (some ⟨u, 16, y, z⟩) 0 [] = some (vp (sl dC .full [])) := by
  unfold bsA
  simp only [hz, h1]
  rw [if_pos ⟨by decide, by decide, trivial, trivial⟩]
  rfl
attribute [go_sem] bsA_leaf0 bsA_dig0
theorem g33 : Tryd.prog.eqGuardType Tryd.prog.depth 33 = false := by kernel_rfl
theorem eq33n {l : List Leaf} (h : l ≠ []) (op : BinOp) : binPlan Tryd.prog op 33 (sl eC .no l) (.val (.slice none 0 0)) = eqR op false := eq_sn op (nilS_ne h) (fun v e => by cases e) td33 g33
theorem eq33v (a : Option Addr) (n c : Nat) (op : BinOp) : binPlan Tryd.prog op 33 (.val (.slice a n c)) (.val (.slice none 0 0)) = eqR op a.isNone := eq_vn op a n c td33 g33
def rowG (l : List Leaf) (a b : Nat) : Dig := ⟨rowD l 12 a b, rowD_len _ _ _ _⟩
theorem gt_sub (l : List Leaf) (a n x : Nat) (h : a + x < l.length) (hx : x < n) : gt ((l.drop a).take n) x = gt l (a + x) := by
  simp only [gt, List.getD, List.getElem?_take, List.getElem?_drop, if_pos hx]
theorem rowD_sub (l : List Leaf) (a n : Nat) : ∀ d x y, a + y ≤ l.length → x < y → y ≤ n → rowD ((l.drop a).take n) d x y = rowD l d (a + x) (a + y)
  | 0, x, y, h1, h2, h3 => by
    show lefT _ = lefT _
    rw [gt_sub l a n x (by omega) (by omega)]
  | d + 1, x, y, h1, h2, h3 => by
    have e : a + y - (a + x) = y - x := by omega
    unfold rowD
    rw [e]
    by_cases h : y - x ≤ 1
    · rw [if_pos h, if_pos h, gt_sub l a n x (by omega) (by omega)]
    · have hh := half_lt (n := y - x) (by omega)
      rw [if_neg h, if_neg h, rowD_sub l a n d x _ (by omega) (by omega) (by omega), rowD_sub l a n d _ y (by omega) (by omega) (by omega), Nat.add_assoc]
theorem digT_sub {l : List Leaf} {a b : Nat} (h1 : a < b) (h2 : b ≤ l.length) : digT ((l.drop a).take (b - a)) = rowD l 12 a b := by
  have hl : ((l.drop a).take (b - a)).length = b - a := by rw [List.length_take, List.length_drop]; omega
  unfold digT
  rw [hl, rowD_sub l a (b - a) 12 0 (b - a) (by omega) (by omega) (Nat.le_refl _)]
  congr 1
  omega
def sdsT (l : List Leaf) (f e : Nat) : Nat → Nat → Nat → List Dig
  | 0, a, b => if b ≤ f ∨ e ≤ a then [rowG l a b] else []
  | d + 1, a, b => if b ≤ f ∨ e ≤ a then [rowG l a b] else if b - a ≤ 1 then [] else sdsT l f e d a (a + halfT (b - a)) ++ sdsT l f e d (a + halfT (b - a)) b
section
variable {l : List Leaf} {f e d a b : Nat}
theorem sds_s (h : b ≤ f ∨ e ≤ a) : sdsT l f e d a b = [rowG l a b] := by cases d <;> simp only [sdsT, if_pos h]
theorem sds_l (h : ¬ (b ≤ f ∨ e ≤ a)) (h2 : b - a ≤ 1) : sdsT l f e d a b = [] := by cases d <;> simp only [sdsT, if_neg h, if_pos h2]
theorem sds_n (h : ¬ (b ≤ f ∨ e ≤ a)) (h2 : ¬ b - a ≤ 1) : sdsT l f e (d + 1) a b = sdsT l f e d a (a + halfT (b - a)) ++ sdsT l f e d (a + halfT (b - a)) b := by simp only [sdsT, if_neg h, if_neg h2]
end
theorem sds_len (l : List Leaf) (f e : Nat) : ∀ d a b, (sdsT l f e d a b).length ≤ 2 ^ d
  | 0, a, b => by unfold sdsT; split <;> simp
  | d + 1, a, b => by
    have h1 := sds_len l f e d a (a + halfT (b - a))
    have h2 := sds_len l f e d (a + halfT (b - a)) b
    have e2 : 2 ^ (d + 1) = 2 * 2 ^ d := by rw [Nat.pow_succ]; omega
    have hp := Nat.two_pow_pos d
    unfold sdsT; split
    · simp; omega
    · split
      · simp
      · rw [List.length_append]; omega
theorem at91_S (l : List Leaf) (f e q d : Nat) : atG 91 [.kp [.val (nI f)], .kp [.val (nI e)], .bp q 0, .kp [sl eC .no l]] (d + 1) = .kp [.fn 91 [.kp [.val (nI f)], .kp [.val (nI e)], .bp q 0, .kp [sl eC .no l], atG 91 [.kp [.val (nI f)], .kp [.val (nI e)], .bp q 0, .kp [sl eC .no l]] d]] := rfl
theorem OkL.sub {l : List Leaf} (h : OkL l) {a b : Nat} (hb : b ≤ l.length) : OkL ((l.drop a).take (b - a)) := by
  have hl := h.1
  refine ⟨by rw [List.length_take, List.length_drop]; omega, fun i hi => ?_⟩
  rw [List.length_take, List.length_drop] at hi
  rw [gt_sub l a (b - a) i (by omega) (by omega)]; exact h.2 _ (by omega)
theorem resL_z (cx : Cx) (st : St) : resL cx st [] = some (.tup []) := rfl
attribute [go_sem] resL_z
theorem prf_nr (x y : Value) (lv : List Leaf) (S : List Dig) : nrH 1 [some [.val x, .val y, sl eC .no lv, sl dC (.own 16) S]] = true := by simp only [nrH_some, nrH_nil, go_sem, Bool.and_self]
theorem rowG_len (l : List Leaf) (a b : Nat) : (rowG l a b).1.length = 16 := (rowG l a b).2
def shdT (l : List Leaf) (f e : Nat) : List Dig := if l.length = 0 then [] else sdsT l f e 12 0 l.length
theorem shd_0 {l : List Leaf} {f e : Nat} (h : l.length = 0) : shdT l f e = [] := if_pos h
theorem shd_n {l : List Leaf} {f e : Nat} (h : ¬ l.length = 0) : shdT l f e = sdsT l f e 12 0 l.length := if_neg h
theorem X_fc63a {p : Prop} (e : p := by intro KZ hZ; simp -implicitDefEqProofs (disch := first | omega | (simp only [go_sem, lA, lD, lT] <;> omega) | decide) only [go_sem, ↓reduceIte, Nat.reduceEqDiff, reduceCtorEq, Nat.reduceLT, Nat.reduceBEq, Nat.reduceAdd, e33, hy]; with_reducible exact hZ) : p := e
theorem F_fc63a {p : Prop} (e : p := by simp -implicitDefEqProofs (disch := first | omega | (simp only [go_sem, lA, lD, lT] <;> omega) | decide) only [go_sem, ↓reduceIte, Nat.reduceEqDiff, reduceCtorEq]; all_goals (rfl)) : p := e
theorem fc63a {gl : Nat → C} {M : Nat} {pu : Nat → List C → Option C}  (hcx : CxOK (cxP gl M pu))  (l : List Leaf) (hl : l.length ≤ 1000000) (h0 : l ≠ []) : FC Tryd.prog gl 63 [sl eC .no l] [] (sl eC (.own 2) l) [] := by
 replace hcx := hcx.reN (M := 8)
 refine FC.ofA (cx := cxP gl 8 pu) (rs := [.tmp 2]) rfl Tryd.func63 rfl rfl rfl (by simp only [List.length_cons, List.length_nil]; decide) (by simp only [go_sem]) ?_
 simp only [ini, go_sem]
 have hy := True.intro
 have e33 := @eq33n l h0
 refine Tr.w hcx [] _ [] rfl rfl rfl ?_ X_fc63a
 refine Tr.seqK fun K1 hK1 => ?_
 refine Tr.w hcx [] _ [] rfl rfl rfl ?_ X_fc63a
 refine Tr.cF rfl ?_
 refine Tr.skip ?_
 refine hK1 _ ?_
 refine Tr.w hcx [5, 1000007] _ [] rfl rfl rfl ?_ X_fc63a
 exact Tr.ret F_fc63a
theorem X_fc63b {p : Prop} (e : p := by intro KZ hZ; simp -implicitDefEqProofs (disch := first | omega | (simp only [go_sem, lA, lD, lT] <;> omega) | decide) only [go_sem, ↓reduceIte, Nat.reduceEqDiff, reduceCtorEq, Nat.reduceLT, Nat.reduceBEq, Nat.reduceAdd, eq33v, Option.isNone_none, hy]; with_reducible exact hZ) : p := e
theorem F_fc63b {p : Prop} (e : p := by simp -implicitDefEqProofs (disch := first | omega | (simp only [go_sem, lA, lD, lT] <;> omega) | decide) only [go_sem, ↓reduceIte, Nat.reduceEqDiff, reduceCtorEq]; all_goals (rfl)) : p := e
theorem fc63b {gl : Nat → C} {M : Nat} {pu : Nat → List C → Option C}  (hcx : CxOK (cxP gl M pu))  (cap : Nat) (hc : cap ≤ maxLen) : FC Tryd.prog gl 63 [.val (.slice none 0 cap)] [] (sl eC (.own 2) []) [] := by
 replace hcx := hcx.reN (M := 8)
 refine FC.ofA (cx := cxP gl 8 pu) (rs := [.tmp 2]) rfl Tryd.func63 rfl rfl rfl (by simp only [List.length_cons, List.length_nil]; decide) (by simp only [go_sem]) ?_
 simp only [ini, go_sem]
 have hy := True.intro
 refine Tr.w hcx [] _ [] rfl rfl rfl ?_ X_fc63b
 refine Tr.seqK fun K1 hK1 => ?_
 refine Tr.w hcx [] _ [] rfl rfl rfl ?_ X_fc63b
 refine Tr.cT rfl ?_
 refine Tr.w hcx [] _ [] rfl rfl rfl ?_ X_fc63b
 refine Tr.live [(2, sl eC (.own 2) [])] LT ?_
 exact Tr.ret F_fc63b
theorem X_fc63c {p : Prop} (e : p := by intro KZ hZ; simp -implicitDefEqProofs (disch := first | omega | (simp only [go_sem, lA, lD, lT] <;> omega) | decide) only [go_sem, ↓reduceIte, Nat.reduceEqDiff, reduceCtorEq, Nat.reduceLT, Nat.reduceBEq, Nat.reduceAdd, eq33v, Option.isNone_some, hy]; with_reducible exact hZ) : p := e
theorem F_fc63c {p : Prop} (e : p := by simp -implicitDefEqProofs (disch := first | omega | (simp only [go_sem, lA, lD, lT] <;> omega) | decide) only [go_sem, ↓reduceIte, Nat.reduceEqDiff, reduceCtorEq]; all_goals (rfl)) : p := e
theorem fc63c {gl : Nat → C} {M : Nat} {pu : Nat → List C → Option C}  (hcx : CxOK (cxP gl M pu))  (x : Addr) (cap : Nat) (hc : cap ≤ maxLen) : FC Tryd.prog gl 63 [.val (.slice (some x) 0 cap)] [] (sl eC (.own 2) []) [] := by
 replace hcx := hcx.reN (M := 8)
 refine FC.ofA (cx := cxP gl 8 pu) (rs := [.tmp 2]) rfl Tryd.func63 rfl rfl rfl (by simp only [List.length_cons, List.length_nil]; decide) (by simp only [go_sem]) ?_
 simp only [ini, go_sem]
 have hy := True.intro
 refine Tr.w hcx [] _ [] rfl rfl rfl ?_ X_fc63c
 refine Tr.seqK fun K1 hK1 => ?_
 refine Tr.w hcx [] _ [] rfl rfl rfl ?_ X_fc63c
 refine Tr.cF rfl ?_
 refine Tr.skip ?_
 refine hK1 _ ?_
 refine Tr.live [(0, sl eC .no [])] (by simp only [Le_cons, Le_nil, ↓A_cons, ↓reduceIte, Nat.reduceEqDiff, and_true]; exact CLe.ofVal _ _ hc) ?_
 refine Tr.w hcx [5, 1000007] _ [] rfl rfl rfl ?_ X_fc63c
 exact Tr.ret F_fc63c
theorem X_fc91z {p : Prop} (e : p := by intro KZ hZ; simp -implicitDefEqProofs (disch := first | omega | (simp only [go_sem, lA, lD, lT, hgl] <;> omega) | decide) only [go_sem, ↓reduceIte, Nat.reduceEqDiff, reduceCtorEq, Nat.reduceLT, Nat.reduceBEq, Nat.reduceAdd, b1, b2, hy]; with_reducible exact hZ) : p := e
theorem Y_fc91z {p : Prop} (e : p := by intro KZ hZ; simp -implicitDefEqProofs (disch := first | omega | (simp only [go_sem, lA, lD, lT, hgl] <;> omega) | decide) only [go_sem, ↓reduceIte, Nat.reduceEqDiff, reduceCtorEq, Nat.reduceLT, Nat.reduceBEq, Nat.reduceAdd, b1, b2, hy]; with_reducible refine And.intro ?_ hZ; first | exact rfl | decide) : p := e
theorem F_fc91z {p : Prop} (e : p := by simp -implicitDefEqProofs (disch := first | omega | (simp only [go_sem, lA, lD, lT, hgl] <;> omega) | decide) only [go_sem, ↓reduceIte, Nat.reduceEqDiff, reduceCtorEq]; all_goals (first | (rw [hR]; done) | (rw [hR, List.append_nil]; done) | (rw [hR, List.append_assoc]; done) | (rw [hR]; rfl))) : p := e
theorem fc91z {gl : Nat → C} {M0 : Nat} {pu : Nat → List C → Option C} {hp : Nat → List C → Hp → Option (C × Hp)} (hcx : CxOK (cxR gl M0 pu hp)) (l : List Leaf) (f e z : Nat) (lv : List Leaf) (S : List Dig) (d a b : Nat) (hl : OkL l) (hf : f ≤ 5000 ∧ e ≤ 5000) (hab : a < b ∧ b ≤ l.length ∧ b - a ≤ 2 ^ d) (hS : S.length ≤ 100000 - 2 ^ d) (hd : d ≤ 12) (hz : b ≤ f ∨ e ≤ a ∨ b - a ≤ 1)  (hnr : ∀ (g : Nat) (xs : List C), noRefs 0 xs = false → pu g xs = none) (h51 : ∀ l : List Leaf, OkL l → 0 < l.length → pu 51 [sl eC .no l] = some (.agg (cl bC (digT l)))) : FC Tryd.prog gl 91 [.val (nI a), .val (nI b), .kp [.val (nI f)], .kp [.val (nI e)], .bp 0 0, .kp [sl eC .no l], atG 91 [.kp [.val (nI f)], .kp [.val (nI e)], .bp 0 0, .kp [sl eC .no l]] d] [some [.val (nI f), .val (nI z), sl eC .no lv, sl dC (.own 16) (S)]] (.tup []) [some [.val (nI f), .val (nI z), sl eC .no lv, sl dC (.own 16) (S ++ sdsT l f e d a b)]] := by
 replace hcx := hcx.reN (M := 45)
 refine FC.ofT (cx := cxR gl 45 pu hp) (rs := []) rfl Tryd.func91 rfl rfl rfl (by simp only [List.length_cons, List.length_nil]; decide) (by simp only [go_sem]) (prf_nr _ _ _ _) ?_
 simp only [ini, go_sem]
 have b1 := True.intro
 have b2 := True.intro
 have hy := True.intro
 have hll := hl.1
 have hgl := rowG_len l
 refine Tr.blk ?_
 by_cases b1 : b ≤ f
 ·
  refine Tr.w hcx [1000018] [some 11, some 12, some 13, some 14, some 15, some 16, some 17, some 18, some 10] [] rfl rfl rfl ?_ X_fc91z
  refine Tr.cT rfl ?_
  have hR := sds_s (l := l) (d := d) (f := f) (e := e) (a := a) (b := b) (Or.inl b1)
  have e51 : pu 51 [sl eC .no ((l.drop a).take (b - a))] = some (.agg (cl bC (rowG l a b).1)) := (h51 _ (hl.sub hab.2.1) (by rw [List.length_take, List.length_drop]; omega)).trans (by rw [digT_sub hab.1 hab.2.1]; rfl)
  have hy := @e51
  refine Tr.vD hcx hMOR [20] _ [] rfl rfl rfl rfl ?_ Y_fc91z
  exact F_fc91z
 by_cases b2 : e ≤ a
 ·
  refine Tr.w hcx [1000018] [some 11, some 12, some 13, some 14, some 15, some 16, some 17, some 18, some 10] [] rfl rfl rfl ?_ X_fc91z
  refine Tr.cT rfl ?_
  have hR := sds_s (l := l) (d := d) (f := f) (e := e) (a := a) (b := b) (Or.inr b2)
  have e51 : pu 51 [sl eC .no ((l.drop a).take (b - a))] = some (.agg (cl bC (rowG l a b).1)) := (h51 _ (hl.sub hab.2.1) (by rw [List.length_take, List.length_drop]; omega)).trans (by rw [digT_sub hab.1 hab.2.1]; rfl)
  have hy := @e51
  refine Tr.vD hcx hMOR [20] _ [] rfl rfl rfl rfl ?_ Y_fc91z
  exact F_fc91z
 refine Tr.w hcx [1000018] [some 11, some 12, some 13, some 14, some 15, some 16, some 17, some 18, some 10] [] rfl rfl rfl ?_ X_fc91z
 refine Tr.cF rfl ?_
 have h29 : (1 < b - a) = False := eq_false (by omega)
 have hR := sds_l (l := l) (d := d) (f := f) (e := e) (a := a) (b := b) (fun h => h.elim b1 b2) (by omega)
 have hy := @h29
 refine Tr.w hcx [1000033] _ [] rfl rfl rfl ?_ X_fc91z
 refine Tr.cF rfl ?_
 refine Tr.skip ?_
 exact F_fc91z
theorem X_fc91s {p : Prop} (e : p := by intro KZ hZ; simp -implicitDefEqProofs (disch := first | omega | (simp only [go_sem, lA, lD, lT, hgl] <;> omega) | decide) only [go_sem, ↓reduceIte, Nat.reduceEqDiff, reduceCtorEq, Nat.reduceLT, Nat.reduceBEq, Nat.reduceAdd, hy]; with_reducible exact hZ) : p := e
theorem F_fc91s {p : Prop} (e : p := by simp -implicitDefEqProofs (disch := first | omega | (simp only [go_sem, lA, lD, lT, hgl] <;> omega) | decide) only [go_sem, ↓reduceIte, Nat.reduceEqDiff, reduceCtorEq]; all_goals (rfl)) : p := e
theorem fc91s {gl : Nat → C} {M0 : Nat} {pu : Nat → List C → Option C} {hp : Nat → List C → Hp → Option (C × Hp)} (hcx : CxOK (cxR gl M0 pu hp)) (l : List Leaf) (f e z : Nat) (lv : List Leaf) (S : List Dig) (d a b : Nat) (hl : OkL l) (hf : f ≤ 5000 ∧ e ≤ 5000) (hab : a < b ∧ b ≤ l.length ∧ b - a ≤ 2 ^ (d + 1)) (hS : S.length ≤ 100000 - 2 ^ (d + 1)) (hd : (d + 1) ≤ 12) (hq91 : ∀ (S : List Dig) (a b : Nat), S.length ≤ 100000 - 2 ^ d → a < b ∧ b ≤ l.length ∧ b - a ≤ 2 ^ d → hp 91 [.val (nI a), .val (nI b), .kp [.val (nI f)], .kp [.val (nI e)], .bp 0 0, .kp [sl eC .no l], atG 91 [.kp [.val (nI f)], .kp [.val (nI e)], .bp 0 0, .kp [sl eC .no l]] d] [some [.val (nI f), .val (nI z), sl eC .no lv, sl dC (.own 16) (S)]] = some (.tup [], [some [.val (nI f), .val (nI z), sl eC .no lv, sl dC (.own 16) (S ++ sdsT l f e d a b)]])) (hz1 : ¬ b ≤ f) (hz2 : ¬ e ≤ a) (hz3 : ¬ b - a ≤ 1)  (hnr : ∀ (g : Nat) (xs : List C), noRefs 0 xs = false → pu g xs = none) (hn91 : ∀ xs : List C, (∃ b o, C.bp b o ∈ xs) → hp 91 xs [] = some (.top, [])) (h81 : ∀ x y : Nat, x ≤ y ∧ y ≤ 4611686018427387000 → pu 81 [.val (nI x), .val (nI y)] = some (.val (nI (x + halfT (y - x))))) : FC Tryd.prog gl 91 [.val (nI a), .val (nI b), .kp [.val (nI f)], .kp [.val (nI e)], .bp 0 0, .kp [sl eC .no l], atG 91 [.kp [.val (nI f)], .kp [.val (nI e)], .bp 0 0, .kp [sl eC .no l]] (d + 1)] [some [.val (nI f), .val (nI z), sl eC .no lv, sl dC (.own 16) (S)]] (.tup []) [some [.val (nI f), .val (nI z), sl eC .no lv, sl dC (.own 16) (S ++ sdsT l f e (d + 1) a b)]] := by
 replace hcx := hcx.reN (M := 45)
 refine FC.ofT (cx := cxR gl 45 pu hp) (rs := []) rfl Tryd.func91 rfl rfl rfl (by simp only [List.length_cons, List.length_nil]; decide) (by simp only [go_sem]) (prf_nr _ _ _ _) ?_
 simp only [ini, go_sem]
 have hy := True.intro
 have hll := hl.1
 have hgl := rowG_len l
 have b1 := hz1
 have b2 := hz2
 have h29 : (1 < b - a) = True := eq_true (by omega)
 refine Tr.blk ?_
 have hy := And.intro @b1 @b2
 refine Tr.w hcx [1000018] [some 11, some 12, some 13, some 14, some 15, some 16, some 17, some 18, some 10] [] rfl rfl rfl ?_ X_fc91s
 refine Tr.cF rfl ?_
 have hy := @h29
 refine Tr.w hcx [1000033] _ [] rfl rfl rfl ?_ X_fc91s
 refine Tr.cT rfl ?_
 have e81 := h81 a b (by omega)
 have hh := half_lt (n := b - a) (by omega)
 have hh2 := half_le (by omega) hab.2.2
 have e2d : 2 ^ (d + 1) = 2 * 2 ^ d := by rw [Nat.pow_succ]; omega
 have hp3 : 2 ^ (d + 1) ≤ 2 ^ 12 := Nat.pow_le_pow_right (by omega) hd
 have hs1 := sds_len l f e d a (a + halfT (b - a))
 have e1 := hq91 S a (a + halfT (b - a)) (by omega) (by omega)
 have e2 := hq91 (S ++ sdsT l f e d a (a + halfT (b - a))) (a + halfT (b - a)) b (by rw [List.length_append]; omega) (by omega)
 have hR := sds_n (l := l) (d := d) (f := f) (e := e) (a := a) (b := b) (fun h => h.elim b1 b2) hz3
 rw [List.append_assoc, ← hR] at e2
 have en : ∀ x y : Nat, hp 91 [.val (nI x), .val (nI y), .kp [.val (nI f)], .kp [.val (nI e)], .bp 0 0, .kp [sl eC .no l], atG 91 [.kp [.val (nI f)], .kp [.val (nI e)], .bp 0 0, .kp [sl eC .no l]] d] [] = some (.top, []) := fun x y => hn91 _ ⟨0, 0, by simp⟩
 have ep : ∀ x y : Nat, pu 91 [.val (nI x), .val (nI y), .kp [.val (nI f)], .kp [.val (nI e)], .bp 0 0, .kp [sl eC .no l], atG 91 [.kp [.val (nI f)], .kp [.val (nI e)], .bp 0 0, .kp [sl eC .no l]] d] = none := fun x y => hnr 91 _ rfl
 have hy := @e81
 refine Tr.w hcx [1000036] _ [] rfl rfl rfl ?_ X_fc91s
 refine Tr.k [0, 1, 6, 9] ?_
 have hy := And.intro @at91_S (And.intro @e1 (And.intro @en @ep))
 refine Tr.w hcx [] _ [] rfl rfl rfl ?_ X_fc91s
 have hy := And.intro @at91_S (And.intro @e2 (And.intro @en @ep))
 refine Tr.v hcx [] _ [] rfl rfl rfl ?_ X_fc91s
 exact F_fc91s
end Go.Sx
namespace Go.Sx
open Go.RowKit Go.Proofs
set_option maxRecDepth 100000
set_option maxHeartbeats 8000000
abbrev Prf := Nat × Nat × List Leaf × List Dig
def shwT (l : List Leaf) (f e : Nat) : Prf := (f, l.length, (l.drop f).take (e - f), shdT l f e)
def prvT (l : List Leaf) (k : List UInt8) : Prf × Nat :=
  if valT l = 0 then ((if fromT l k < l.length ∧ (gt l (fromT l k)).1 = k then shwT l (fromT l k) (fromT l k + 1) else shwT l (fromT l k - 1) (min (fromT l k + 1) l.length)), 0) else ((0, 0, [], []), valT l)
def rngT (l : List Leaf) (x y : List UInt8) : Prf × Nat :=
  if valT l = 0 then (if bl y x = true then ((0, 0, [], []), 5) else (shwT l (fromT l x - 1) (min (fromT l y + 1) l.length), 0)) else ((0, 0, [], []), valT l)
theorem prv_1 {l : List Leaf} {k : List UInt8} (h : ¬ valT l = 0) : prvT l k = ((0, 0, [], []), valT l) := if_neg h
theorem prv_2 {l : List Leaf} {k : List UInt8} {i : Nat} (hi : fromT l k = i) (h : valT l = 0) (h2 : i < l.length) (h3 : (gt l i).1 = k) : prvT l k = (shwT l i (i + 1), 0) := by subst hi; unfold prvT; rw [if_pos h, if_pos ⟨h2, h3⟩]
theorem prv_3 {l : List Leaf} {k : List UInt8} {i : Nat} (hi : fromT l k = i) (h : valT l = 0) (h2 : ¬ (i < l.length ∧ (gt l i).1 = k)) : prvT l k = (shwT l (i - 1) (min (i + 1) l.length), 0) := by subst hi; unfold prvT; rw [if_pos h, if_neg h2]
theorem rng_1 {l : List Leaf} {x y : List UInt8} (h : ¬ valT l = 0) : rngT l x y = ((0, 0, [], []), valT l) := if_neg h
theorem rng_2 {l : List Leaf} {x y : List UInt8} (h : valT l = 0) (h2 : bl y x = true) : rngT l x y = ((0, 0, [], []), 5) := by unfold rngT; rw [if_pos h, if_pos h2]
theorem rng_3 {l : List Leaf} {x y : List UInt8} (h : valT l = 0) (h2 : ¬ bl y x = true) : rngT l x y = (shwT l (fromT l x - 1) (min (fromT l y + 1) l.length), 0) := by unfold rngT; rw [if_pos h, if_neg h2]
theorem from_le (l : List Leaf) (k : List UInt8) : fromT l k ≤ l.length := cntL l k l.length
theorem maxI (i : Nat) : (C.val (.int .i64 (max ((i : Int) - ((1 : Nat) : Int)) ((0 : Nat) : Int)))) = .val (nI (i - 1)) := by
  congr 2; omega
theorem from_mono {l : List Leaf} {x y : List UInt8} (hs : Srt l) (h : bl y x = false) : fromT l x ≤ fromT l y := by
  have key : ∀ n, cntT l x n ≤ cntT l y n := fun n => by
    unfold cntT
    rw [← List.countP_eq_length_filter, ← List.countP_eq_length_filter]
    exact List.countP_mono_left fun p _ hp => bl_lt_le hp h
  exact key _
theorem X_fc57 {p : Prop} (e : p := by intro KZ hZ; simp -implicitDefEqProofs (disch := first | omega | (simp only [go_sem, lA, lD, lT] <;> omega) | decide) only [go_sem, ↓reduceIte, Nat.reduceEqDiff, reduceCtorEq, Nat.reduceLT, Nat.reduceBEq, Nat.reduceAdd, hy]; with_reducible exact hZ) : p := e
theorem Y_fc57 {p : Prop} (e : p := by intro KZ hZ; simp -implicitDefEqProofs (disch := first | omega | (simp only [go_sem, lA, lD, lT] <;> omega) | decide) only [go_sem, ↓reduceIte, Nat.reduceEqDiff, reduceCtorEq, Nat.reduceLT, Nat.reduceBEq, Nat.reduceAdd, hy]; with_reducible refine And.intro ?_ hZ; first | exact rfl | decide) : p := e
theorem F_fc57 {p : Prop} (e : p := by simp -implicitDefEqProofs (disch := first | omega | (simp only [go_sem, lA, lD, lT] <;> omega) | decide) only [go_sem, ↓reduceIte, Nat.reduceEqDiff, reduceCtorEq]; all_goals (first | (rw [hR]; done) | (rw [hR]; rfl))) : p := e
theorem fc57 {gl : Nat → C} {M : Nat} {pu : Nat → List C → Option C} {hp : Nat → List C → Hp → Option (C × Hp)} (hcx : CxOK (cxR gl M pu hp))  (hnr : ∀ (g : Nat) (xs : List C), noRefs 0 xs = false → pu g xs = none) (h63 : ∀ l : List Leaf, l.length ≤ 1000000 → pu 63 [sl eC .no l] = some (sl eC (.own 2) l)) (hn91 : ∀ xs : List C, (∃ b o, C.bp b o ∈ xs) → hp 91 xs [] = some (.top, [])) (hq91 : ∀ (pre suf : Hp) (l : List Leaf) (f e z : Nat) (lv : List Leaf) (S : List Dig) (d a b : Nat), OkH pre → OkH suf → OkL l → f ≤ 5000 ∧ e ≤ 5000 → S.length ≤ 100000 - 2 ^ d → d ≤ 12 → a < b ∧ b ≤ l.length ∧ b - a ≤ 2 ^ d → hp 91 [.val (nI a), .val (nI b), .kp [.val (nI f)], .kp [.val (nI e)], .bp pre.length 0, .kp [sl eC .no l], atG 91 [.kp [.val (nI f)], .kp [.val (nI e)], .bp pre.length 0, .kp [sl eC .no l]] d] (pre ++ ([some [.val (nI f), .val (nI z), sl eC .no lv, sl dC (.own 16) (S)]] ++ suf)) = some (.tup [], pre ++ ([some [.val (nI f), .val (nI z), sl eC .no lv, sl dC (.own 16) (S ++ sdsT l f e d a b)]] ++ suf))) (l : List Leaf) (f e : Nat) (hl : OkL l) (hfe : f ≤ e ∧ e ≤ l.length) : FC Tryd.prog gl 57 [sl eC .no l, .val (nI f), .val (nI e)] [] (.agg [.val (nI f), .val (nI l.length), sl eC .no ((l.drop f).take (e - f)), sl dC .no (shdT l f e)]) [] := by
 replace hcx := hcx.reN (M := 27)
 refine FC.ofA (cx := cxR gl 27 pu hp) (rs := [.cell 6 50]) rfl Tryd.func57 rfl rfl rfl (by simp only [List.length_cons, List.length_nil]; decide) (by simp only [go_sem]) ?_
 simp only [ini, go_sem]
 have hy := True.intro
 have hll := hl.1
 have e63 := h63 ((l.drop f).take (e - f)) (by rw [List.length_take, List.length_drop]; omega)
 refine Tr.w hcx [] _ [none, none, none, none] rfl rfl rfl ?_ X_fc57
 have hy := @e63
 refine Tr.wD hcx hMOR [] _ [none] rfl rfl rfl rfl ?_ Y_fc57
 have hy := True.intro
 refine Tr.w hcx [] _ [none] rfl rfl rfl ?_ X_fc57
 refine Tr.w hcx [] _ [] rfl rfl rfl ?_ X_fc57
 refine Tr.seqK fun K1 hK1 => ?_
 refine Tr.k [3, 6, 7, 8] ?_
 refine Tr.bxc 4 3 (sl dC (.own 16) []) _ rfl rfl (CLe_sln rfl) rfl ?_
 simp only [List.set_cons_succ, List.set_cons_zero]
 refine Tr.f1 hcx 0 [sl eC .no l] ?_
 refine Tr.f1 hcx 1 [.val (nI f)] ?_
 refine Tr.f1 hcx 2 [.val (nI e)] ?_
 refine Tr.f2 hcx 5 12 91 [.kp [.val (nI f)], .kp [.val (nI e)], .bp 4 0, .kp [sl eC .no l]] ?_
 refine Tr.m1 hcx [3, 4] ?_
 refine Tr.w hcx [] _ [] rfl rfl rfl ?_ X_fc57
 refine Tr.cD rfl (fun hc21 => ?_) (fun hc21 => ?_)
 ·
  have hR := shd_n (l := l) (f := f) (e := e) (by omega)
  have e91 := hq91 [some [.val (nI 0), .val (nI 0), .val (.slice none 0 0), .val (.slice none 0 0)]] [] l f e l.length ((l.drop f).take (e - f)) [] 12 0 l.length (OkH.cons rfl OkH.nil) OkH.nil hl (by omega) (by simp) (by omega) (by omega)
  simp only [List.cons_append, List.nil_append, List.length_cons, List.length_nil, Nat.zero_add] at e91
  have en : ∀ x y : Nat, hp 91 [.val (nI x), .val (nI y), .kp [.val (nI f)], .kp [.val (nI e)], .bp 1 0, .kp [sl eC .no l], atG 91 [.kp [.val (nI f)], .kp [.val (nI e)], .bp 1 0, .kp [sl eC .no l]] 12] [] = some (.top, []) := fun x y => hn91 _ ⟨1, 0, by simp⟩
  have ep : ∀ x y : Nat, pu 91 [.val (nI x), .val (nI y), .kp [.val (nI f)], .kp [.val (nI e)], .bp 1 0, .kp [sl eC .no l], atG 91 [.kp [.val (nI f)], .kp [.val (nI e)], .bp 1 0, .kp [sl eC .no l]] 12] = none := fun x y => hnr 91 _ rfl
  have hy := And.intro @e91 (And.intro @en @ep)
  refine Tr.v hcx [] _ [] rfl rfl rfl ?_ X_fc57
  refine hK1 _ ?_
  refine Tr.k [6, 7] ?_
  have hy := True.intro
  refine Tr.w hcx [] _ [] rfl rfl rfl ?_ X_fc57
  exact Tr.ret F_fc57
 have hR := shd_0 (l := l) (f := f) (e := e) (by omega)
 refine Tr.skip ?_
 refine hK1 _ ?_
 refine Tr.w hcx [] _ [] rfl rfl rfl ?_ X_fc57
 exact Tr.ret F_fc57
theorem X_fc22 {p : Prop} (e : p := by intro KZ hZ; simp -implicitDefEqProofs (disch := first | omega | (simp only [go_sem, lA, lD, lT] <;> omega) | decide) only [go_sem, ↓reduceIte, Nat.reduceEqDiff, reduceCtorEq, Nat.reduceLT, Nat.reduceBEq, Nat.reduceAdd, e15, b1, b2, b3, hy]; with_reducible exact hZ) : p := e
theorem F_fc22 {p : Prop} (e : p := by simp -implicitDefEqProofs (disch := first | omega | (simp only [go_sem, lA, lD, lT] <;> omega) | decide) only [go_sem, ↓reduceIte, Nat.reduceEqDiff, reduceCtorEq]; all_goals (first | (rw [hR]; done) | (rw [hR]; rfl) | (rw [hR]; simp only [shwT, Nat.add_sub_cancel_left]; done))) : p := e
theorem fc22 {gl : Nat → C} {M : Nat} {pu : Nat → List C → Option C}  (hcx : CxOK (cxP gl M pu))  (h15 : ∀ l : List Leaf, LB l → pu 15 [sl eC .no l] = some (.val (nI (valT l)))) (h56 : ∀ (l : List Leaf) (k : List UInt8), Srt l → l.length ≤ 1000000 → pu 56 [sl eC .no l, .val (str k)] = some (.val (nI (fromT l k)))) (h57 : ∀ (l : List Leaf) (f e : Nat), OkL l → f ≤ e ∧ e ≤ l.length → pu 57 [sl eC .no l, .val (nI f), .val (nI e)] = some (.agg [.val (nI f), .val (nI l.length), sl eC .no ((l.drop f).take (e - f)), sl dC .no (shdT l f e)])) (l : List Leaf) (k : List UInt8) (hl : LB l) : FC Tryd.prog gl 22 [sl eC .no l, .val (str k)] [] (.tup [.agg [.val (nI (prvT l k).1.1), .val (nI (prvT l k).1.2.1), sl eC .no (prvT l k).1.2.2.1, sl dC .no (prvT l k).1.2.2.2], .val (nI (prvT l k).2)]) [] := by
 replace hcx := hcx.reN (M := 45)
 refine FC.ofA (cx := cxP gl 45 pu) (rs := [.cell 4 50, .tmp 5]) rfl Tryd.func22 rfl rfl rfl (by simp only [List.length_cons, List.length_nil]; decide) (by simp only [go_sem]) ?_
 simp only [ini, go_sem]
 have b1 := True.intro
 have b2 := True.intro
 have b3 := True.intro
 have hy := True.intro
 have e15 := h15 l hl
 refine Tr.w hcx [] _ [none] rfl rfl rfl ?_ X_fc22
 refine Tr.seqK fun K1 hK1 => ?_
 refine Tr.w hcx [1000009] _ [] rfl rfl rfl ?_ X_fc22
 by_cases b1 : valT l = 0
 ·
  have hok := valT_ok (l := l) (by omega)
  have hll := hok.1
  have hsr := valT_srt b1
  have e56 := h56 l k hsr (by omega)
  have hfl := from_le l k
  obtain ⟨i, hi⟩ : ∃ i, fromT l k = i := ⟨_, rfl⟩
  rw [hi] at e56 hfl
  refine Tr.w hcx [] _ [] rfl rfl rfl ?_ X_fc22
  refine Tr.cF rfl ?_
  refine Tr.skip ?_
  refine hK1 _ ?_
  have hy := @e56
  refine Tr.w hcx [1000016] _ [] rfl rfl rfl ?_ X_fc22
  refine Tr.seqK fun K2 hK2 => ?_
  by_cases b2 : i < l.length
  ·
   by_cases b3 : (gt l i).1 = k
   ·
    have hy := True.intro
    refine Tr.w hcx [] [some 17, some 18, some 19, some 20, some 21, some 22, some 23, some 24, some 25, some 26, some 27, some 28, some 29] [] rfl rfl rfl ?_ X_fc22
    refine Tr.cT rfl ?_
    have e57 := h57 l i (i + 1) hok (by omega)
    have hR := prv_2 hi b1 b2 b3
    have hy := @e57
    refine Tr.w hcx [] _ [] rfl rfl rfl ?_ X_fc22
    refine Tr.k [4, 5] ?_
    exact Tr.ret F_fc22
   have hy := True.intro
   refine Tr.w hcx [] [some 17, some 18, some 19, some 20, some 21, some 22, some 23, some 24, some 25, some 26, some 27, some 28, some 29] [] rfl rfl rfl ?_ X_fc22
   refine Tr.cF rfl ?_
   refine Tr.skip ?_
   refine hK2 _ ?_
   refine Tr.k [0, 4, 7] ?_
   have e57 := h57 l (i - 1) (min (i + 1) l.length) hok (by omega)
   have hR := prv_3 hi b1 (fun h => b3 h.2)
   have hy := And.intro @e57 (And.intro @maxI @n_subG)
   refine Tr.w hcx [] _ [] rfl rfl rfl ?_ X_fc22
   exact Tr.ret F_fc22
  have hy := True.intro
  refine Tr.w hcx [] [some 17, some 18, some 19, some 20, some 21, some 22, some 23, some 24, some 25, some 26, some 27, some 28, some 29] [] rfl rfl rfl ?_ X_fc22
  refine Tr.cF rfl ?_
  refine Tr.skip ?_
  refine hK2 _ ?_
  refine Tr.k [0, 4, 7] ?_
  have e57 := h57 l (i - 1) (min (i + 1) l.length) hok (by omega)
  have hR := prv_3 hi b1 (fun h => b2 h.1)
  have hy := And.intro @e57 (And.intro @maxI @n_subG)
  refine Tr.w hcx [] _ [] rfl rfl rfl ?_ X_fc22
  exact Tr.ret F_fc22
 skip
 refine Tr.w hcx [] _ [] rfl rfl rfl ?_ X_fc22
 refine Tr.cT rfl ?_
 refine Tr.w hcx [1000013] _ [] rfl rfl rfl ?_ X_fc22
 refine Tr.bxc 0 2 (sl eC .no []) _ rfl rfl (CLe_sln rfl) rfl ?_
 refine Tr.bxc 0 3 (sl dC .no []) _ rfl rfl (CLe_sln rfl) rfl ?_
 simp only [List.set_cons_succ, List.set_cons_zero]
 have hR := prv_1 (k := k) b1
 exact Tr.ret F_fc22
theorem X_fc24 {p : Prop} (e : p := by intro KZ hZ; simp -implicitDefEqProofs (disch := first | omega | (simp only [go_sem, lA, lD, lT] <;> omega) | decide) only [go_sem, ↓reduceIte, Nat.reduceEqDiff, reduceCtorEq, Nat.reduceLT, Nat.reduceBEq, Nat.reduceAdd, e15, b1, b2, hy]; with_reducible exact hZ) : p := e
theorem F_fc24 {p : Prop} (e : p := by simp -implicitDefEqProofs (disch := first | omega | (simp only [go_sem, lA, lD, lT] <;> omega) | decide) only [go_sem, ↓reduceIte, Nat.reduceEqDiff, reduceCtorEq]; all_goals (first | (rw [hR]; done) | (rw [hR]; rfl))) : p := e
theorem fc24 {gl : Nat → C} {M : Nat} {pu : Nat → List C → Option C}  (hcx : CxOK (cxP gl M pu))  (h15 : ∀ l : List Leaf, LB l → pu 15 [sl eC .no l] = some (.val (nI (valT l)))) (h56 : ∀ (l : List Leaf) (k : List UInt8), Srt l → l.length ≤ 1000000 → pu 56 [sl eC .no l, .val (str k)] = some (.val (nI (fromT l k)))) (h57 : ∀ (l : List Leaf) (f e : Nat), OkL l → f ≤ e ∧ e ≤ l.length → pu 57 [sl eC .no l, .val (nI f), .val (nI e)] = some (.agg [.val (nI f), .val (nI l.length), sl eC .no ((l.drop f).take (e - f)), sl dC .no (shdT l f e)])) (l : List Leaf) (x y : List UInt8) (hl : LB l) : FC Tryd.prog gl 24 [sl eC .no l, .val (str x), .val (str y)] [] (.tup [.agg [.val (nI (rngT l x y).1.1), .val (nI (rngT l x y).1.2.1), sl eC .no (rngT l x y).1.2.2.1, sl dC .no (rngT l x y).1.2.2.2], .val (nI (rngT l x y).2)]) [] := by
 replace hcx := hcx.reN (M := 33)
 refine FC.ofA (cx := cxP gl 33 pu) (rs := [.cell 6 50, .tmp 7]) rfl Tryd.func24 rfl rfl rfl (by simp only [List.length_cons, List.length_nil]; decide) (by simp only [go_sem]) ?_
 simp only [ini, go_sem]
 have b1 := True.intro
 have b2 := True.intro
 have hy := True.intro
 have e15 := h15 l hl
 refine Tr.w hcx [] _ [none] rfl rfl rfl ?_ X_fc24
 refine Tr.seqK fun K1 hK1 => ?_
 refine Tr.w hcx [1000010] _ [] rfl rfl rfl ?_ X_fc24
 by_cases b1 : valT l = 0
 ·
  have hok := valT_ok (l := l) (by omega)
  have hll := hok.1
  have hsr := valT_srt b1
  have e56a := h56 l x hsr (by omega)
  have e56b := h56 l y hsr (by omega)
  have hfx := from_le l x
  have hfy := from_le l y
  refine Tr.w hcx [] _ [] rfl rfl rfl ?_ X_fc24
  refine Tr.cF rfl ?_
  refine Tr.skip ?_
  refine hK1 _ ?_
  refine Tr.seqK fun K2 hK2 => ?_
  by_cases b2 : bl y x = true
  ·
   skip
   refine Tr.w hcx [] _ [] rfl rfl rfl ?_ X_fc24
   refine Tr.cT rfl ?_
   refine Tr.w hcx [] _ [] rfl rfl rfl ?_ X_fc24
   refine Tr.bxc 0 2 (sl eC .no []) _ rfl rfl (CLe_sln rfl) rfl ?_
   refine Tr.bxc 0 3 (sl dC .no []) _ rfl rfl (CLe_sln rfl) rfl ?_
   simp only [List.set_cons_succ, List.set_cons_zero]
   have hR := rng_2 b1 b2
   exact Tr.ret F_fc24
  have b2n := b2
  have hxy := from_mono hsr (Bool.eq_false_iff.2 b2)
  replace b2 := Bool.eq_false_iff.2 b2
  refine Tr.w hcx [] _ [] rfl rfl rfl ?_ X_fc24
  refine Tr.cF rfl ?_
  refine Tr.skip ?_
  refine hK2 _ ?_
  refine Tr.k [0, 1, 2, 6] ?_
  have e57 := h57 l (fromT l x - 1) (min (fromT l y + 1) l.length) hok (by omega)
  have hR := rng_3 b1 b2n
  have hy := And.intro @e56a (And.intro @e56b (And.intro @e57 (And.intro @maxI @n_subG)))
  refine Tr.w hcx [] _ [] rfl rfl rfl ?_ X_fc24
  exact Tr.ret F_fc24
 skip
 refine Tr.w hcx [] _ [] rfl rfl rfl ?_ X_fc24
 refine Tr.cT rfl ?_
 refine Tr.w hcx [1000014] _ [] rfl rfl rfl ?_ X_fc24
 refine Tr.bxc 0 2 (sl eC .no []) _ rfl rfl (CLe_sln rfl) rfl ?_
 refine Tr.bxc 0 3 (sl dC .no []) _ rfl rfl (CLe_sln rfl) rfl ?_
 simp only [List.set_cons_succ, List.set_cons_zero]
 have hR := rng_1 (x := x) (y := y) b1
 exact Tr.ret F_fc24
end Go.Sx
namespace Go.Sx
open Go.RowKit
section
variable {cx : Cx} {Q : Ex → St → Prop} {e : List (Nat × C)} {h : Hp} {c : Code}
theorem Tr.f12 (hcx : CxOK cx) (b : Nat) (cells : List C) {e' : List (Nat × C)} {h' : Hp} (H : Tr cx 2 c ⟨A e', h'⟩ Q)
    (hnb : 2 ≤ b := by decide) (hn : ∀ j, j < 2 → ((h.at j).isSome || (h.mp j).isSome) = true ∨ h[j]? = some none := by intro j hj; match j, hj with | 0, _ => exact Or.inl rfl | 1, _ => exact Or.inl rfl | (k + 2), h => exact absurd h (by omega))
    (hb : h.at b = some cells := by simp only [go_sem])
    (E : ∀ K : List (Nat × C) → Hp → Prop, K e' h' → K (mapE (fzC (okF h b) b (fzY h b cells)) e) (fzH (okF h b) b (fzY h b cells) h) := by
      intro KZ hZ
      simp -implicitDefEqProofs only [go_sem, fzY_eq, fzY_cl, fzH_eq, mapE_nil, mapE_cons, fzC_val, fzC_top, fzC_agg, fzC_tup, fzC_kp, fzC_fn, fzC_sl, fzC_sv, fzC_bp, fzC_mp, fzC_bt, fzC_gv, fzCs_nil, fzCs_cons, fzCs_cl, scr_sv, scr_gv, scr_bp, scr_mp, scr_bt, scr_kp, scr_agg, scr_fn, scr_top, scr_val, scr_sl, scrs_nil, scrs_cons, scrs_cl, atG_fz, okF_eq, Option.isSome_some, Option.isSome_none, Nat.reduceBNe, Bool.true_and, Bool.and_true, Bool.false_and, Bool.true_or, Bool.false_or, ↓reduceIte, Nat.reduceEqDiff, reduceCtorEq, Nat.zero_ne_one, Nat.one_ne_zero]
      with_reducible exact hZ) : Tr cx 2 c ⟨A e, h⟩ Q :=
  Tr.fzA hcx b cells hb hnb hn (E (fun x y => Tr cx 2 c ⟨A x, y⟩ Q) H)
theorem Tr.m12 (hcx : CxOK cx) (ρ : List Nat) {e' : List (Nat × C)} {h' : Hp} (H : Tr cx 2 c ⟨A e', h'⟩ Q)
    (hρ : okρ 2 ρ := by exact ⟨by decide, by decide, by decide⟩)
    (E : ∀ K : List (Nat × C) → Hp → Prop, K e' h' → K (mapE (mvC ρ) e) (mvH ρ h) := by
      intro KZ hZ
      simp -implicitDefEqProofs only [mapE_nil, mapE_cons, atG_mv, mvH_eq, mvHa_nil, mvHa_cons, hget_0, hget_S, Option.map_some, Option.map_none, mvCs_cl, mvCs_f, mvCs_nil, mvCs_cons, mvC_val, mvC_top, mvC_sl, mvC_gv, mvC_sv, mvC_bp, mvC_agg, mvC_kp, mvGv_some, mvGv_none, mvSv_some, mvSv_none, mvBp_some, mvBp_none, loc_nil, loc_cons, ↓reduceIte, Nat.reduceEqDiff, reduceCtorEq, Nat.reduceAdd, Nat.zero_add, Nat.one_ne_zero, Nat.zero_ne_one, mvC_fn, mvC_bt, mvBt_some, mvBt_none, mvC_mp, mvMp_some, mvMp_none]
      with_reducible exact hZ) : Tr cx 2 c ⟨A e, h⟩ Q :=
  Tr.mvA hcx ρ hρ (E (fun x y => Tr cx 2 c ⟨A x, y⟩ Q) H)
end
end Go.Sx
namespace Go.Sx
open Go.RowKit Go.Proofs
set_option maxRecDepth 100000
set_option maxHeartbeats 8000000
abbrev US := Bool × List Dig
def sidO (S : List Dig) : List UInt8 × US := if S.length = 0 then (List.replicate 16 0, (false, S)) else ((gt S 0).1, (true, S.drop 1))
def unO (l : List Leaf) (f : Nat) : Nat → Nat → Nat → US → List UInt8 × US
  | 0, a, b, st => if st.1 = false then (List.replicate 16 0, st) else if b ≤ f ∨ f + l.length ≤ a then sidO st.2 else (lefT (gt l (a - f)), st)
  | d + 1, a, b, st => if st.1 = false then (List.replicate 16 0, st) else if b ≤ f ∨ f + l.length ≤ a then sidO st.2 else if b - a ≤ 1 then (lefT (gt l (a - f)), st)
      else (nodT (unO l f d a (a + halfT (b - a)) st).1 (unO l f d (a + halfT (b - a)) b (unO l f d a (a + halfT (b - a)) st).2).1, (unO l f d (a + halfT (b - a)) b (unO l f d a (a + halfT (b - a)) st).2).2)
section
variable {l : List Leaf} {f d a b : Nat} {st : US} {S : List Dig}
theorem un_f (h : st.1 = false) : unO l f d a b st = (List.replicate 16 0, st) := by cases d <;> simp only [unO, if_pos h]
theorem un_s (h : b ≤ f ∨ f + l.length ≤ a) : unO l f d a b (true, S) = sidO S := by cases d <;> simp [unO, if_pos h]
theorem un_l (h : ¬ (b ≤ f ∨ f + l.length ≤ a)) (h2 : b - a ≤ 1) : unO l f d a b (true, S) = (lefT (gt l (a - f)), (true, S)) := by
  cases d with
  | zero => unfold unO; rw [if_neg (by simp), if_neg h]
  | succ d => unfold unO; rw [if_neg (by simp), if_neg h, if_pos h2]
theorem un_n (h : ¬ (b ≤ f ∨ f + l.length ≤ a)) (h2 : ¬ b - a ≤ 1) : unO l f (d + 1) a b (true, S) = (nodT (unO l f d a (a + halfT (b - a)) (true, S)).1 (unO l f d (a + halfT (b - a)) b (unO l f d a (a + halfT (b - a)) (true, S)).2).1, (unO l f d (a + halfT (b - a)) b (unO l f d a (a + halfT (b - a)) (true, S)).2).2) := by
  rw [unO, if_neg (by simp), if_neg h, if_neg h2]
theorem sidO_0 (h : S.length = 0) : sidO S = (List.replicate 16 0, (false, S)) := if_pos h
theorem sidO_n (h : ¬ S.length = 0) : sidO S = ((gt S 0).1, (true, S.drop 1)) := if_neg h
theorem sidO_len : (sidO S).1.length = 16 := by unfold sidO; split; rfl; exact (gt S 0).2
end
theorem unO_len (l : List Leaf) (f : Nat) : ∀ d a b st, (unO l f d a b st).1.length = 16
  | 0, a, b, st => by unfold unO; split; rfl; split; exact sidO_len; exact lefT_len _
  | d + 1, a, b, st => by
    unfold unO; split
    · rfl
    · split
      · exact sidO_len
      · split
        · exact lefT_len _
        · exact nodT_len _ _
theorem unO_bd (l : List Leaf) (f : Nat) : ∀ d a b st, (unO l f d a b st).2.2.length ≤ st.2.length
  | 0, a, b, st => by
    unfold unO; split
    · exact Nat.le_refl _
    · split
      · unfold sidO; split <;> simp
      · exact Nat.le_refl _
  | d + 1, a, b, st => by
    unfold unO; split
    · exact Nat.le_refl _
    · split
      · unfold sidO; split <;> simp
      · split
        · exact Nat.le_refl _
        · exact Nat.le_trans (unO_bd l f d _ b _) (unO_bd l f d a _ st)
theorem und_nr (x : Bool) (S : List Dig) : nrH 2 [some [.val (.bool x)], some [sl dC .no S]] = true := by simp only [nrH_some, nrH_nil, go_sem, Bool.and_self]
theorem at93_S (l : List Leaf) (f z : Nat) (e : Nat) (S0 : List Dig) (q q' d : Nat) : atG 93 [.bp q 0, .kp [.val (nI f), .val (nI z), sl eC .no l, sl dC .no S0], .kp [.val (nI e)], .bp q' 0] (d + 1) = .kp [.fn 93 [.bp q 0, .kp [.val (nI f), .val (nI z), sl eC .no l, sl dC .no S0], .kp [.val (nI e)], .bp q' 0, atG 93 [.bp q 0, .kp [.val (nI f), .val (nI z), sl eC .no l, sl dC .no S0], .kp [.val (nI e)], .bp q' 0] d]] := rfl
theorem rda_d0 {S : List Dig} (h : 0 < S.length) : rda (cl dC S) 0 16 = some (.agg (cl bC (gt S 0).1)) := by
  have q := rda_dropE (f := dC) S 0 h
  rw [Nat.zero_mul, List.drop_zero] at q; exact q
theorem tk1 {S : List Dig} : List.take (S.length - 1) (List.drop 1 S) = List.drop 1 S := List.take_of_length_le (by rw [List.length_drop]; exact Nat.le_refl _)
theorem X_fc93z {p : Prop} (e : p := by intro KZ hZ; simp -implicitDefEqProofs (disch := first | omega | (simp only [go_sem, lA, lD, lT, lefT_len, nodT_len, hgl] <;> omega) | decide) only [go_sem, ↓reduceIte, Nat.reduceEqDiff, reduceCtorEq, Nat.reduceLT, Nat.reduceBEq, Nat.reduceAdd, b0, b1, b2, b3, hy]; with_reducible exact hZ) : p := e
theorem F_fc93z {p : Prop} (e : p := by simp -implicitDefEqProofs (disch := first | omega | (simp only [go_sem, lA, lD, lT, lefT_len, nodT_len, hgl] <;> omega) | decide) only [go_sem, ↓reduceIte, Nat.reduceEqDiff, reduceCtorEq]; all_goals (first | (simp only [hR]; done) | (rw [hR]; exact ⟨rfl, rfl⟩) | (rw [hR]))) : p := e
theorem fc93z {gl : Nat → C} {M0 : Nat} {pu : Nat → List C → Option C} {hp : Nat → List C → Hp → Option (C × Hp)} (hcx : CxOK (cxR gl M0 pu hp)) (l : List Leaf) (f z : Nat) (S0 : List Dig) (st : US) (d a b : Nat) (hl : OkL l) (hf : f ≤ 5000) (hS : st.2.length ≤ 1000000) (hab : a < b ∧ b ≤ 5000 ∧ b - a ≤ 2 ^ d) (hz : st.1 = false ∨ b ≤ f ∨ f + l.length ≤ a ∨ b - a ≤ 1)  (hnr : ∀ (g : Nat) (xs : List C), noRefs 0 xs = false → pu g xs = none) (h80 : ∀ x : Leaf, x.1.length ≤ 65536 ∧ x.2.length ≤ 65536 → pu 80 [.agg (eC x)] = some (.agg (cl bC (lefT x)))) : FC Tryd.prog gl 93 [.val (nI a), .val (nI b), .bp 0 0, .kp [.val (nI f), .val (nI z), sl eC .no l, sl dC .no S0], .kp [.val (nI (f + l.length))], .bp 1 0, atG 93 [.bp 0 0, .kp [.val (nI f), .val (nI z), sl eC .no l, sl dC .no S0], .kp [.val (nI (f + l.length))], .bp 1 0] d] [some [.val (.bool st.1)], some [sl dC .no st.2]] (.agg (cl bC (unO l f d a b st).1)) [some [.val (.bool (unO l f d a b st).2.1)], some [sl dC .no (unO l f d a b st).2.2]] := by
 replace hcx := hcx.reN (M := 66)
 refine FC.ofT (cx := cxR gl 66 pu hp) (rs := [.cell 9 29]) rfl Tryd.func93 rfl rfl rfl (by simp only [List.length_cons, List.length_nil]; decide) (by simp only [go_sem]) (und_nr _ _) ?_
 simp only [ini, go_sem]
 have b0 := True.intro
 have b1 := True.intro
 have b2 := True.intro
 have b3 := True.intro
 have hy := True.intro
 have hgl := fun (S : List Dig) k => (gt S k).2
 have hll := hl.1
 obtain ⟨en, S⟩ := st
 simp only [] at *
 refine Tr.w hcx [] _ [none] rfl rfl rfl ?_ X_fc93z
 refine Tr.seqK fun K1 hK1 => ?_
 refine Tr.blk ?_
 by_cases b0 : en = true
 ·
  subst b0
  refine Tr.w hcx [1000015] _ [] rfl rfl rfl ?_ X_fc93z
  refine Tr.cF rfl ?_
  by_cases b1 : b ≤ f
  ·
   refine Tr.w hcx [1000026] [some 18, some 19, some 20, some 21, some 22, some 23, some 24, some 25, some 26, some 17] [] rfl rfl rfl ?_ X_fc93z
   refine Tr.k [0, 1, 2, 3, 5, 6, 9, 17] ?_
   refine Tr.cT rfl ?_
   refine Tr.seqK fun K2 hK2 => ?_
   by_cases b3 : S.length = 0
   ·
    skip
    have hR := (un_s (l := l) (f := f) (d := d) (a := a) (b := b) (S := S) (Or.inl b1)).trans (sidO_0 b3)
    have h29 : (0 < S.length) = False := by simp only [eq_iff_iff, iff_false]; omega
    have hy := @h29
    refine Tr.w hcx [] _ [] rfl rfl rfl ?_ X_fc93z
    have hy := True.intro
    refine Tr.w hcx [] _ [] rfl rfl rfl ?_ X_fc93z
    refine Tr.cT rfl ?_
    refine Tr.w hcx [] _ [] rfl rfl rfl ?_ X_fc93z
    exact Tr.ret F_fc93z
   skip
   have hR := (un_s (l := l) (f := f) (d := d) (a := a) (b := b) (S := S) (Or.inl b1)).trans (sidO_n b3)
   have h29 : (0 < S.length) = True := by simp only [eq_iff_iff, iff_true]; omega
   have hy := @h29
   refine Tr.w hcx [] _ [] rfl rfl rfl ?_ X_fc93z
   have hy := True.intro
   refine Tr.w hcx [] _ [] rfl rfl rfl ?_ X_fc93z
   refine Tr.cF rfl ?_
   refine Tr.skip ?_
   refine hK2 _ ?_
   have hr0 := rda_d0 (S := S) (by omega)
   have hy := @hr0
   refine Tr.w hcx [] _ [none] rfl rfl rfl ?_ X_fc93z
   have hy := @tk1
   refine Tr.w hcx [] _ [] rfl rfl rfl ?_ X_fc93z
   have hy := True.intro
   refine Tr.w hcx [] _ [] rfl rfl rfl ?_ X_fc93z
   exact Tr.ret F_fc93z
  by_cases b2 : f + l.length ≤ a
  ·
   refine Tr.w hcx [1000026] [some 18, some 19, some 20, some 21, some 22, some 23, some 24, some 25, some 26, some 17] [] rfl rfl rfl ?_ X_fc93z
   refine Tr.k [0, 1, 2, 3, 5, 6, 9, 17] ?_
   refine Tr.cT rfl ?_
   refine Tr.seqK fun K3 hK3 => ?_
   by_cases b3 : S.length = 0
   ·
    skip
    have hR := (un_s (l := l) (f := f) (d := d) (a := a) (b := b) (S := S) (Or.inr b2)).trans (sidO_0 b3)
    have h29 : (0 < S.length) = False := by simp only [eq_iff_iff, iff_false]; omega
    have hy := @h29
    refine Tr.w hcx [] _ [] rfl rfl rfl ?_ X_fc93z
    have hy := True.intro
    refine Tr.w hcx [] _ [] rfl rfl rfl ?_ X_fc93z
    refine Tr.cT rfl ?_
    refine Tr.w hcx [] _ [] rfl rfl rfl ?_ X_fc93z
    exact Tr.ret F_fc93z
   skip
   have hR := (un_s (l := l) (f := f) (d := d) (a := a) (b := b) (S := S) (Or.inr b2)).trans (sidO_n b3)
   have h29 : (0 < S.length) = True := by simp only [eq_iff_iff, iff_true]; omega
   have hy := @h29
   refine Tr.w hcx [] _ [] rfl rfl rfl ?_ X_fc93z
   have hy := True.intro
   refine Tr.w hcx [] _ [] rfl rfl rfl ?_ X_fc93z
   refine Tr.cF rfl ?_
   refine Tr.skip ?_
   refine hK3 _ ?_
   have hr0 := rda_d0 (S := S) (by omega)
   have hy := @hr0
   refine Tr.w hcx [] _ [none] rfl rfl rfl ?_ X_fc93z
   have hy := @tk1
   refine Tr.w hcx [] _ [] rfl rfl rfl ?_ X_fc93z
   have hy := True.intro
   refine Tr.w hcx [] _ [] rfl rfl rfl ?_ X_fc93z
   exact Tr.ret F_fc93z
  refine Tr.w hcx [1000026] [some 18, some 19, some 20, some 21, some 22, some 23, some 24, some 25, some 26, some 17] [] rfl rfl rfl ?_ X_fc93z
  refine Tr.k [0, 1, 2, 3, 5, 6, 9, 17] ?_
  refine Tr.cF rfl ?_
  have hz9 := hz.resolve_left (by simp)
  have h43 : b - a = 1 := by omega
  have hR := un_l (l := l) (f := f) (d := d) (a := a) (b := b) (S := S) (fun h => h.elim b1 b2) (by omega)
  have e80 := h80 (gt l (a - f)) (hl.2 (a - f) (by omega))
  have hy := @h43
  refine Tr.w hcx [1000043] _ [] rfl rfl rfl ?_ X_fc93z
  refine Tr.cT rfl ?_
  have hy := @e80
  refine Tr.w hcx [] _ [] rfl rfl rfl ?_ X_fc93z
  exact Tr.ret F_fc93z
 replace b0 := Bool.eq_false_iff.2 b0
 subst b0
 have hR := un_f (l := l) (f := f) (d := d) (a := a) (b := b) (st := (false, S)) rfl
 refine Tr.w hcx [1000015] _ [] rfl rfl rfl ?_ X_fc93z
 refine Tr.cT rfl ?_
 refine Tr.w hcx [] _ [] rfl rfl rfl ?_ X_fc93z
 exact Tr.ret F_fc93z
theorem X_fc93s {p : Prop} (e : p := by intro KZ hZ; simp -implicitDefEqProofs (disch := first | omega | (simp only [go_sem, lA, lD, lT, lefT_len, nodT_len, hgl, hx1, hx2] <;> omega) | decide) only [go_sem, ↓reduceIte, Nat.reduceEqDiff, reduceCtorEq, Nat.reduceLT, Nat.reduceBEq, Nat.reduceAdd, hy]; with_reducible exact hZ) : p := e
theorem Y_fc93s {p : Prop} (e : p := by intro KZ hZ; simp -implicitDefEqProofs (disch := first | omega | (simp only [go_sem, lA, lD, lT, lefT_len, nodT_len, hgl, hx1, hx2] <;> omega) | decide) only [go_sem, ↓reduceIte, Nat.reduceEqDiff, reduceCtorEq, Nat.reduceLT, Nat.reduceBEq, Nat.reduceAdd, hy]; with_reducible refine And.intro ?_ hZ; first | exact rfl | decide) : p := e
theorem F_fc93s {p : Prop} (e : p := by simp -implicitDefEqProofs (disch := first | omega | (simp only [go_sem, lA, lD, lT, lefT_len, nodT_len, hgl, hx1, hx2] <;> omega) | decide) only [go_sem, ↓reduceIte, Nat.reduceEqDiff, reduceCtorEq]; all_goals (first | (simp only [hR]; done) | (rw [hR]; exact ⟨rfl, rfl⟩) | (rw [hR]))) : p := e
theorem fc93s {gl : Nat → C} {M0 : Nat} {pu : Nat → List C → Option C} {hp : Nat → List C → Hp → Option (C × Hp)} (hcx : CxOK (cxR gl M0 pu hp)) (l : List Leaf) (f z : Nat) (S0 : List Dig) (st : US) (d a b : Nat) (hl : OkL l) (hf : f ≤ 5000) (hS : st.2.length ≤ 1000000) (hab : a < b ∧ b ≤ 5000 ∧ b - a ≤ 2 ^ (d + 1)) (hq93 : ∀ (suf : Hp) (st : US) (a b : Nat), OkH suf → st.2.length ≤ 1000000 → a < b ∧ b ≤ 5000 ∧ b - a ≤ 2 ^ d → hp 93 [.val (nI a), .val (nI b), .bp 0 0, .kp [.val (nI f), .val (nI z), sl eC .no l, sl dC .no S0], .kp [.val (nI (f + l.length))], .bp 1 0, atG 93 [.bp 0 0, .kp [.val (nI f), .val (nI z), sl eC .no l, sl dC .no S0], .kp [.val (nI (f + l.length))], .bp 1 0] d] ([some [.val (.bool st.1)], some [sl dC .no st.2]] ++ suf) = some (.agg (cl bC (unO l f d a b st).1), [some [.val (.bool (unO l f d a b st).2.1)], some [sl dC .no (unO l f d a b st).2.2]] ++ suf)) (hz0 : st.1 = true) (hz1 : ¬ b ≤ f) (hz2 : ¬ f + l.length ≤ a) (hz3 : ¬ b - a ≤ 1)  (hnr : ∀ (g : Nat) (xs : List C), noRefs 0 xs = false → pu g xs = none) (h81 : ∀ x y : Nat, x ≤ y ∧ y ≤ 4611686018427387000 → pu 81 [.val (nI x), .val (nI y)] = some (.val (nI (x + halfT (y - x))))) (h82 : ∀ a b : List UInt8, a.length = 16 → b.length = 16 → pu 82 [.agg (cl bC a), .agg (cl bC b)] = some (.agg (cl bC (nodT a b)))) : FC Tryd.prog gl 93 [.val (nI a), .val (nI b), .bp 0 0, .kp [.val (nI f), .val (nI z), sl eC .no l, sl dC .no S0], .kp [.val (nI (f + l.length))], .bp 1 0, atG 93 [.bp 0 0, .kp [.val (nI f), .val (nI z), sl eC .no l, sl dC .no S0], .kp [.val (nI (f + l.length))], .bp 1 0] (d + 1)] [some [.val (.bool st.1)], some [sl dC .no st.2]] (.agg (cl bC (unO l f (d + 1) a b st).1)) [some [.val (.bool (unO l f (d + 1) a b st).2.1)], some [sl dC .no (unO l f (d + 1) a b st).2.2]] := by
 replace hcx := hcx.reN (M := 66)
 refine FC.ofT (cx := cxR gl 66 pu hp) (rs := [.cell 9 29]) rfl Tryd.func93 rfl rfl rfl (by simp only [List.length_cons, List.length_nil]; decide) (by simp only [go_sem]) (und_nr _ _) ?_
 simp only [ini, go_sem]
 have hy := True.intro
 have hgl := fun (S : List Dig) k => (gt S k).2
 have hll := hl.1
 obtain ⟨en, S⟩ := st
 simp only [] at *
 subst hz0
 have b1 := hz1
 have b2 := hz2
 have h43 : (b - a = 1) = False := eq_false (by omega)
 have hx1 := True.intro
 have hx2 := True.intro
 refine Tr.w hcx [] _ [none] rfl rfl rfl ?_ X_fc93s
 refine Tr.seqK fun K1 hK1 => ?_
 refine Tr.blk ?_
 refine Tr.w hcx [1000015] _ [] rfl rfl rfl ?_ X_fc93s
 refine Tr.cF rfl ?_
 have hy := And.intro @b1 @b2
 refine Tr.w hcx [1000026] [some 18, some 19, some 20, some 21, some 22, some 23, some 24, some 25, some 26, some 17] [] rfl rfl rfl ?_ X_fc93s
 refine Tr.k [0, 1, 2, 3, 5, 6, 9, 17] ?_
 refine Tr.cF rfl ?_
 have hy := @h43
 refine Tr.w hcx [1000043] _ [] rfl rfl rfl ?_ X_fc93s
 refine Tr.cF rfl ?_
 refine Tr.skip ?_
 refine hK1 _ ?_
 have e81 := h81 a b (by omega)
 have hh := half_lt (n := b - a) (by omega)
 have hh2 := half_le (by omega) hab.2.2
 have e1 := hq93 [some (cl bC (List.replicate 16 0)), none] (true, S) a (a + halfT (b - a)) (OkH.cons (okB_cl _) (OkH.cons rfl OkH.nil)) hS (by omega)
 have hR := un_n (l := l) (f := f) (d := d) (a := a) (b := b) (S := S) (fun h => h.elim b1 b2) hz3
 have hB := unO_bd l f d a (a + halfT (b - a)) (true, S)
 obtain ⟨X, hX⟩ : ∃ X, X = unO l f d a (a + halfT (b - a)) (true, S) := ⟨_, rfl⟩
 have hXl : X.1.length = 16 := by rw [hX]; exact unO_len _ _ _ _ _ _
 rw [← hX] at e1 hR hB
 have hx1 := hXl
 have e2 := hq93 [some (cl bC (List.replicate 16 0))] X.2 (a + halfT (b - a)) b (OkH.cons (okB_cl _) OkH.nil) (by simp only [] at hB; omega) (by omega)
 obtain ⟨Y, hY⟩ : ∃ Y, Y = unO l f d (a + halfT (b - a)) b X.2 := ⟨_, rfl⟩
 have hYl : Y.1.length = 16 := by rw [hY]; exact unO_len _ _ _ _ _ _
 rw [← hY] at e2 hR
 have hx2 := hYl
 have e82 := h82 X.1 Y.1 hXl hYl
 simp only [List.cons_append, List.nil_append] at e1 e2
 have ep : ∀ x y : Nat, pu 93 [.val (nI x), .val (nI y), .bp 0 0, .kp [.val (nI f), .val (nI z), sl eC .no l, sl dC .no S0], .kp [.val (nI (f + l.length))], .bp 1 0, atG 93 [.bp 0 0, .kp [.val (nI f), .val (nI z), sl eC .no l, sl dC .no S0], .kp [.val (nI (f + l.length))], .bp 1 0] d] = none := fun x y => hnr 93 _ rfl
 have hy := @e81
 refine Tr.w hcx [1000055] _ [] rfl rfl rfl ?_ X_fc93s
 have hy := And.intro @at93_S (And.intro @e1 @ep)
 refine Tr.w hcx [] _ [none] rfl rfl rfl ?_ X_fc93s
 refine Tr.k [1, 6, 9, 11, 12] ?_
 refine Tr.k [1, 6, 9, 11, 12] ?_
 refine Tr.f12 hcx 3 (cl bC X.1) ?_
 refine Tr.m12 hcx [0, 1, 2] ?_
 have hy := And.intro @at93_S (And.intro @e2 (And.intro @ep @e82))
 refine Tr.wD hcx hMOR [] _ [] rfl rfl rfl rfl ?_ Y_fc93s
 exact Tr.ret F_fc93s
end Go.Sx
