/-
  Package breaks: the best division, in plain terms. And what follows.
-/
import Derived.Test.YtljjjkmiegeocaaPam
import Derived.Test.YtljjjkmiegeocaaPan
set_option linter.unusedSimpArgs false
set_option linter.unusedVariables false
namespace Go.Sx
theorem takeW {p : Nat → Bool} {n c : Nat} (hc : c ≤ n) (h : ∀ m, m < c → p m = true) (hx : c = n ∨ p c = false) : ((List.range n).takeWhile p).length = c := by
  obtain ⟨d, rfl⟩ : ∃ d, n = c + d := ⟨n - c, by omega⟩
  rw [List.range_add, List.takeWhile_append_of_pos (fun a ha => h a (List.mem_range.1 ha)), List.length_append, List.length_range]
  cases d with
  | zero => simp
  | succ d =>
    have hp : p c = false := hx.resolve_left (by omega)
    rw [List.range_succ_eq_map]
    simp [hp]
/-- How many words fit into a line behind the first. -/
def fitS (l : List Int) (b w : Int) (k : Nat) : Nat := ((List.range (l.length - k)).takeWhile fun m => decide (0 ≤ freR l b w (k : Int) ((k + 1 + m : Nat) : Int))).length
theorem fit_of {l : List Int} {b w : Int} {k c : Nat} (hc : c ≤ l.length - k) (h : ∀ m, m < c → 0 ≤ freR l b w (k : Int) ((k + 1 + m : Nat) : Int)) (hx : c = l.length - k ∨ freR l b w (k : Int) ((k + 1 + c : Nat) : Int) < 0) : fitS l b w k = c :=
  takeW hc (fun m hm => decide_eq_true (h m hm)) (hx.imp id fun h => decide_eq_false (by omega))
/-- The best of the first m lines from a word on. -/
def bst (l : List Int) (b w : Int) (L K : List Int) (k : Nat) : Nat → Int × Int × Nat
  | 0 => (0, 0, 0)
  | m + 1 => if m = 0 ∨ befI (gt L (k + 1 + m) + 1) (gt K (k + 1 + m) + priR l b w (k : Int) ((k + 1 + m : Nat) : Int)) (bst l b w L K k m).1 (bst l b w L K k m).2.1 = true then
      (gt L (k + 1 + m) + 1, gt K (k + 1 + m) + priR l b w (k : Int) ((k + 1 + m : Nat) : Int), k + 1 + m) else bst l b w L K k m
theorem bst_T {l : List Int} {b w : Int} {L K : List Int} {k m : Nat} (h : m = 0 ∨ befI (gt L (k + 1 + m) + 1) (gt K (k + 1 + m) + priR l b w (k : Int) ((k + 1 + m : Nat) : Int)) (bst l b w L K k m).1 (bst l b w L K k m).2.1 = true) :
    bst l b w L K k (m + 1) = (gt L (k + 1 + m) + 1, gt K (k + 1 + m) + priR l b w (k : Int) ((k + 1 + m : Nat) : Int), k + 1 + m) := if_pos h
theorem bst_F {l : List Int} {b w : Int} {L K : List Int} {k m : Nat} (h0 : ¬ m = 0) (h : befI (gt L (k + 1 + m) + 1) (gt K (k + 1 + m) + priR l b w (k : Int) ((k + 1 + m : Nat) : Int)) (bst l b w L K k m).1 (bst l b w L K k m).2.1 = false) :
    bst l b w L K k (m + 1) = bst l b w L K k m := if_neg (fun h1 => h1.elim h0 fun h1 => by rw [h] at h1; cases h1)
theorem bst_in (l : List Int) (b w : Int) (L K : List Int) (k : Nat) : ∀ m, 0 < m → ∃ j, k < j ∧ j ≤ k + m ∧ bst l b w L K k m = (gt L j + 1, gt K j + priR l b w (k : Int) (j : Int), j)
  | m + 1, _ => by
    by_cases h : m = 0 ∨ befI (gt L (k + 1 + m) + 1) (gt K (k + 1 + m) + priR l b w (k : Int) ((k + 1 + m : Nat) : Int)) (bst l b w L K k m).1 (bst l b w L K k m).2.1 = true
    · exact ⟨k + 1 + m, by omega, by omega, bst_T h⟩
    · have h0 : ¬ m = 0 := fun h1 => h (.inl h1)
      have h1 : befI (gt L (k + 1 + m) + 1) (gt K (k + 1 + m) + priR l b w (k : Int) ((k + 1 + m : Nat) : Int)) (bst l b w L K k m).1 (bst l b w L K k m).2.1 = false := by
        cases hb : befI (gt L (k + 1 + m) + 1) (gt K (k + 1 + m) + priR l b w (k : Int) ((k + 1 + m : Nat) : Int)) (bst l b w L K k m).1 (bst l b w L K k m).2.1 with
        | false => rfl
        | true => exact absurd (.inr hb) h
      obtain ⟨j, g1, g2, g3⟩ := bst_in l b w L K k m (by omega)
      exact ⟨j, g1, by omega, (bst_F h0 h1).trans g3⟩
/-- The numbers of lines, and the costs, after so many words from behind. -/
def dp (l : List Int) (b w : Int) : Nat → List Int × List Int
  | 0 => (List.replicate (l.length + 1) 0, List.replicate (l.length + 1) 0)
  | c + 1 => ((dp l b w c).1.set (l.length - 1 - c) (bst l b w (dp l b w c).1 (dp l b w c).2 (l.length - 1 - c) (fitS l b w (l.length - 1 - c))).1,
      (dp l b w c).2.set (l.length - 1 - c) (bst l b w (dp l b w c).1 (dp l b w c).2 (l.length - 1 - c) (fitS l b w (l.length - 1 - c))).2.1)
def bs (l : List Int) (b w : Int) (c m : Nat) : Int × Int × Nat := bst l b w (dp l b w c).1 (dp l b w c).2 (l.length - 1 - c) m
def nxt (l : List Int) (b w : Int) (k : Nat) : Nat := (bs l b w (l.length - 1 - k) (fitS l b w k)).2.2
def FL (l : List Int) (b w : Int) (z c : Nat) : List Int := (List.range z).map fun k => if l.length ≤ k + c ∧ k < l.length then ((nxt l b w k : Nat) : Int) else 0
theorem gt_set {α : Type} [Inhabited α] (l : List α) (k j : Nat) (x : α) (h : k < l.length) : gt (l.set k x) j = if k = j then x else gt l j := by
  simp only [gt, List.getD, List.getElem?_set]
  split
  · rename_i e; subst e; simp [h]
  · rfl
theorem ext_gtL {α : Type} [Inhabited α] : ∀ {x y : List α}, x.length = y.length → (∀ i, i < x.length → gt x i = gt y i) → x = y
  | [], [], _, _ => rfl
  | [], b :: y, h, _ => by simp at h
  | a :: x, [], h, _ => by simp at h
  | a :: x, b :: y, h, k => by
    have h0 := k 0 (by simp)
    rw [gt_cons0, gt_cons0] at h0
    have h1 : x = y := ext_gtL (by simpa using h) (fun i hi => by have := k (i + 1) (by simpa using hi); rwa [gt_consS, gt_consS] at this)
    rw [h0, h1]
theorem FL_len (l : List Int) (b w : Int) (z c : Nat) : (FL l b w z c).length = z := by simp [FL]
theorem FL_gt (l : List Int) (b w : Int) (z c k : Nat) (h : k < z) : gt (FL l b w z c) k = if l.length ≤ k + c ∧ k < l.length then ((nxt l b w k : Nat) : Int) else 0 := by
  unfold FL
  rw [gt_map _ _ _ (by simpa using h)]
  have e : gt (List.range z) k = k := by simp [gt, List.getD, List.getElem?_range h]
  rw [e]
theorem FL_0 (l : List Int) (b w : Int) (z : Nat) : FL l b w z 0 = List.replicate z 0 := by
  refine ext_gtL (by rw [FL_len]; simp) fun i hi => ?_
  rw [FL_len] at hi
  rw [FL_gt _ _ _ _ _ _ hi, if_neg (by omega)]
  simp [gt, List.getD, List.getElem?_replicate, hi]
theorem FL_S {l : List Int} {b w : Int} {z c : Nat} (hc : c < l.length) (hz : l.length ≤ z) : (FL l b w z c).set (l.length - 1 - c) ((nxt l b w (l.length - 1 - c) : Nat) : Int) = FL l b w z (c + 1) := by
  refine ext_gtL (by rw [List.length_set, FL_len, FL_len]) fun i hi => ?_
  rw [List.length_set, FL_len] at hi
  rw [gt_set _ _ _ _ (by rw [FL_len]; omega), FL_gt _ _ _ _ _ _ hi, FL_gt _ _ _ _ _ _ hi]
  split
  · rename_i e; subst e; rw [if_pos (by omega)]
  · rename_i e
    by_cases h : l.length ≤ i + c ∧ i < l.length
    · rw [if_pos h, if_pos (by omega)]
    · rw [if_neg h, if_neg (by omega)]
theorem dp_len (l : List Int) (b w : Int) : ∀ c, (dp l b w c).1.length = l.length + 1 ∧ (dp l b w c).2.length = l.length + 1
  | 0 => by simp [dp]
  | c + 1 => by
    have := dp_len l b w c
    simp only [dp, List.length_set]; exact this
theorem nxt_in {l : List Int} {b w : Int} {k : Nat} (hk : k < l.length) (h : 0 < fitS l b w k ∧ fitS l b w k ≤ l.length - k) : k < nxt l b w k ∧ nxt l b w k ≤ l.length := by
  unfold nxt bs
  rw [show l.length - 1 - (l.length - 1 - k) = k by omega]
  obtain ⟨i, g1, g2, g3⟩ := bst_in l b w (dp l b w (l.length - 1 - k)).1 (dp l b w (l.length - 1 - k)).2 k (fitS l b w k) h.1
  rw [g3]; simp only []; omega
theorem fit_le (l : List Int) (b w : Int) (k : Nat) : fitS l b w k ≤ l.length - k := by
  unfold fitS
  have := (List.takeWhile_sublist (l := List.range (l.length - k)) fun m => decide (0 ≤ freR l b w (k : Int) ((k + 1 + m : Nat) : Int))).length_le
  rwa [List.length_range] at this
theorem fit_pos {l : List Int} {b w : Int} {k : Nat} (hk : k < l.length) (h : gt l k ≤ w) : 0 < fitS l b w k := by
  unfold fitS
  obtain ⟨d, hd⟩ : ∃ d, l.length - k = d + 1 := ⟨l.length - k - 1, by omega⟩
  rw [hd, List.range_succ_eq_map, List.takeWhile_cons]
  have hp : 0 ≤ freR l b w (k : Int) ((k + 1 + 0 : Nat) : Int) := by
    have := freR_0 l b w k (by omega)
    have e : ((k + 1 + 0 : Nat) : Int) = (k : Int) + 1 := by omega
    rw [e, this]
    show 0 ≤ w - gt l k
    omega
  rw [if_pos (by simpa using hp)]; simp
/-- The ends, from a word on. -/
def chn (l : List Int) (b w : Int) : Nat → Nat → List Int
  | 0, _ => []
  | f + 1, k => if k < l.length then ((nxt l b w k : Nat) : Int) :: chn l b w f (nxt l b w k) else []
theorem chn_eq {l : List Int} {b w : Int} (h : ∀ k, k < l.length → k < nxt l b w k) : ∀ (f g k : Nat), l.length - k ≤ f → l.length - k ≤ g → chn l b w f k = chn l b w g k
  | 0, 0, k, _, _ => rfl
  | 0, g + 1, k, h1, _ => by simp only [chn]; rw [if_neg (by omega)]
  | f + 1, 0, k, _, h1 => by simp only [chn]; rw [if_neg (by omega)]
  | f + 1, g + 1, k, h1, h2 => by
    simp only [chn]
    split
    · rename_i hk
      have := h k hk
      rw [chn_eq h f g _ (by omega) (by omega)]
    · rfl
theorem chn_S {l : List Int} {b w : Int} (h : ∀ k, k < l.length → k < nxt l b w k) {k : Nat} (hk : k < l.length) : chn l b w (l.length - k) k = ((nxt l b w k : Nat) : Int) :: chn l b w (l.length - nxt l b w k) (nxt l b w k) := by
  obtain ⟨d, hd⟩ : ∃ d, l.length - k = d + 1 := ⟨l.length - k - 1, by omega⟩
  have := h k hk
  rw [hd]
  simp only [chn]
  rw [if_pos hk, chn_eq h d (l.length - nxt l b w k) _ (by omega) (Nat.le_refl _)]
theorem chn_E (l : List Int) (b w : Int) {k : Nat} (hk : ¬ k < l.length) : chn l b w (l.length - k) k = [] := by
  rw [show l.length - k = 0 by omega]; rfl
def endF (l : List Int) (b w : Int) : List Int := chn l b w (l.length - 0) 0
def fillT (l : List Int) (b w : Int) : List Int × List Int × List Int × Nat :=
  if errE l b w ≠ 0 then ([], [], [], errE l b w) else if wideW l w = true then ([], [], [], 21) else (endF l b w, (dp l b w l.length).1, (dp l b w l.length).2, 0)
theorem fill_e {l : List Int} {b w : Int} (hE : ¬ errE l b w = 0) : fillT l b w = ([], [], [], errE l b w) := if_pos hE
theorem fill_w {l : List Int} {b w : Int} (hE : errE l b w = 0) (hw : wideW l w = true) : fillT l b w = ([], [], [], 21) := by
  unfold fillT; rw [if_neg (by simp [hE]), if_pos hw]
theorem fill_0 {l : List Int} {b w : Int} (hE : errE l b w = 0) (hw : ∀ i, i < l.length → gt l i ≤ w) : fillT l b w = (endF l b w, (dp l b w l.length).1, (dp l b w l.length).2, 0) := by
  unfold fillT; rw [if_neg (by simp [hE]), if_neg (by rw [wideW_F hw]; simp)]
end Go.Sx
namespace Go.Sx
open Go.RowKit Go.Proofs
theorem rep0 (n : Nat) : repZero [Value.int .i64 0] n = cl iC (List.replicate n 0) := by
  induction n with
  | zero => rfl
  | succ n ih => rw [List.replicate_succ, cl_cons, ← ih]; rfl
theorem mks22 (n : Nat) (h : n ≤ 1000) : mksP Try.prog (some ⟨.slice 3, 1, 24, [.slice none 0 0]⟩) (.val (nI n)) (.val (nI n)) = some (.new (cl iC (List.replicate n 0)) fun id => .sv id 0 n) := by
  have e : (C.val (nI n)).int? = some (.i64, (n : Int)) := rfl
  unfold mksP
  simp only [e, td3]
  rw [if_pos ⟨by omega, trivial, by omega, by omega, rfl, rfl⟩, Int.toNat_natCast, rep0]
theorem eg22 : Try.prog.eqGuardType Try.prog.depth 22 = false := by kernel_rfl
theorem eq22_nn (op : BinOp) : binPlan Try.prog op 22 (.val (.slice none 0 0)) (.val (.slice none 0 0)) = eqR op true := eq_nn op td22 eg22
theorem eq22_sn (op : BinOp) (r : Rt) (a : Int) (l : List Int) : binPlan Try.prog op 22 (sl iC r (a :: l)) (.val (.slice none 0 0)) = eqR op false := eq_sn op rfl (fun v h => by cases h) td22 eg22
theorem wrc_in (l : List Int) (k a : Nat) (h : k < l.length) : wrc (cl iC l) k [.val (nI a)] = some (cl iC (l.set k (a : Int)), .val undef) := wrc_i l k (a : Int) h
theorem ixL_2a (y : Nat) (z : List Value) (a b : Int) (u : TypeDesc) : ixL (some ⟨u, 1, y, z⟩) (some 0) 2 (cl iC [a, b]) = some (vp (.kp (cl iC [a, b]))) := ixL_some (f := iC) u y z 0 [a, b] (by simp)
theorem ixL_2b (y : Nat) (z : List Value) (a b : Int) (u : TypeDesc) : ixL (some ⟨u, 1, y, z⟩) (some 1) 2 (cl iC [a, b]) = some (vp (.kp (cl iC [b]))) := ixL_some (f := iC) u y z 1 [a, b] (by simp)
attribute [go_sem high] mks22 eq22_nn eq22_sn wrc_in ixL_2a ixL_2b
theorem fzC_sv (ok : Nat → Bool) (b : Nat) (ys : List C) (b' o n : Nat) : fzC ok b ys (.sv b' o n) = if b' = b then (if o + n ≤ ys.length then .sl .no n ((ys.drop o).take n) else .top) else if ok b' = true then .sv b' o n else .top := by simp only [fzC]
theorem fzC_bp (ok : Nat → Bool) (b : Nat) (ys : List C) (b' o : Nat) : fzC ok b ys (.bp b' o) = if b' = b then .kp (ys.drop o) else if ok b' = true then .bp b' o else .top := by simp only [fzC]
theorem sv_full (l : List Int) (m : Nat) (h : m = l.length) : (if 0 + m ≤ (cl iC l).length then C.sl .no m (((cl iC l).drop 0).take m) else .top) = sl iC .no l := by
  subst h
  have hl := cl_len (f := iC) l
  rw [if_pos (by omega), List.drop_zero, List.take_of_length_le (by omega)]; rfl
theorem liv_i (K : List Int) (h : 0 < K.length) : liveC (some (cl iC K)) = some (cl iC K) := by
  cases K with
  | nil => simp at h
  | cons a K => rfl
theorem dp_bc {l : List Int} {b w : Int} (hF : Fine l b w) : ∀ c, c ≤ l.length → (∀ k, l.length ≤ k + c → k < l.length → gt l k ≤ w) → ∀ j, j ≤ l.length → 0 ≤ gt (dp l b w c).1 j ∧ gt (dp l b w c).1 j ≤ c ∧ 0 ≤ gt (dp l b w c).2 j ∧ gt (dp l b w c).2 j ≤ 100000000000000 * c
  | 0, _, _, j, hj => by
    have e : gt (List.replicate (l.length + 1) (0 : Int)) j = 0 := by simp [gt, List.getD, List.getElem?_replicate]; split <;> rfl
    simp only [dp, e]; omega
  | c + 1, hc, hw, j, hj => by
    have ih := dp_bc hF c (by omega) (fun k h1 h2 => hw k (by omega) h2)
    have hl := dp_len l b w c
    have hf := fit_pos (b := b) (k := l.length - 1 - c) (by omega) (hw (l.length - 1 - c) (by omega) (by omega))
    have hf2 := fit_le l b w (l.length - 1 - c)
    obtain ⟨i, g1, g2, g3⟩ := bst_in l b w (dp l b w c).1 (dp l b w c).2 (l.length - 1 - c) (fitS l b w (l.length - 1 - c)) hf
    have hi := ih i (by omega)
    have hj' := ih j hj
    have hp := priR_b hF (i := ((l.length - 1 - c : Nat) : Int)) (j := (i : Int)) (by omega) (by omega)
    simp only [dp]
    rw [gt_set _ _ _ _ (by omega), gt_set _ _ _ _ (by omega), g3]
    split
    · simp only []; omega
    · omega
theorem Tr.cert0 {cx : Cx} {n : Nat} {c : Code} {e : List (Nat × C)} {r : Hp} {Q : Ex → St → Prop} (H : Tr cx n c ⟨A e, some [sl iC .no [], sl iC .no [], sl iC .no []] :: r⟩ Q) : Tr cx n c ⟨A e, some [.val (.slice none 0 0), .val (.slice none 0 0), .val (.slice none 0 0)] :: r⟩ Q := by
  refine Tr.bxc 0 0 (sl iC .no []) [.val (.slice none 0 0), .val (.slice none 0 0), .val (.slice none 0 0)] rfl rfl (CLe_sln rfl) rfl ?_
  refine Tr.bxc 0 1 (sl iC .no []) [sl iC .no [], .val (.slice none 0 0), .val (.slice none 0 0)] rfl rfl (CLe_sln rfl) rfl ?_
  exact Tr.bxc 0 2 (sl iC .no []) [sl iC .no [], sl iC .no [], .val (.slice none 0 0)] rfl rfl (CLe_sln rfl) rfl H
theorem Tr.certF {cx : Cx} (hcx : CxOK cx) {c : Code} {v : Value} {o L K : List Int} {m : Nat} {x1 x4 x5 : Option (List C)} {Q : Ex → St → Prop} (hL : m = L.length) (hK : m = K.length) (hm : 0 < m)
    (H : ∀ r, Tr cx 0 c ⟨A [(6, .bp 0 0), (7, .val v)], some [sl iC .no o, sl iC .no L, sl iC .no K] :: r⟩ Q) :
    Tr cx 0 c ⟨A [(6, .bp 0 0), (7, .val v)], [some [sl iC .no o, .sv 2 0 m, .sv 3 0 m], x1, some (cl iC L), some (cl iC K), x4, x5]⟩ Q := by
  have h0 : ∀ (z : List C), liveC (some (sl iC .no o :: z)) = some (sl iC .no o :: z) := fun z => rfl
  refine Tr.fzA hcx 2 (cl iC L) (by simp only [at_consS, at_cons0]; exact liv_i L (by omega)) (Nat.zero_le _) (fun j hj => absurd hj (Nat.not_lt_zero j)) ?_
  simp only [mapE_cons, mapE_nil, fzY_cl, fzH, List.map_cons, List.map_nil, Option.map_some, fzCs_cons, fzCs_nil, fzCs_cl, fzC_sl, fzC_val, fzC_bp, fzC_sv, sv_full L m hL, okF_eq, at_cons0, at_consS, h0, liv_i K (by omega), List.set_cons_succ, List.set_cons_zero, ↓reduceIte, Nat.reduceEqDiff, Option.isSome_some, Bool.true_and, reduceCtorEq, Nat.reduceBNe, show ((0 : Nat) != 2) = true from rfl, show ((3 : Nat) != 2) = true from rfl, show ((0 : Nat) = 2) = False from eq_false (by decide)]
  refine Tr.fzA hcx 3 (cl iC K) (by simp only [at_consS, at_cons0]; exact liv_i K (by omega)) (Nat.zero_le _) (fun j hj => absurd hj (Nat.not_lt_zero j)) ?_
  simp only [mapE_cons, mapE_nil, fzY_cl, fzH, List.map_cons, List.map_nil, Option.map_some, fzCs_cons, fzCs_nil, fzCs_cl, fzC_sl, fzC_val, fzC_bp, fzC_sv, sv_full K m hK, okF_eq, at_cons0, at_consS, h0, List.set_cons_succ, List.set_cons_zero, ↓reduceIte, Nat.reduceEqDiff, Option.isSome_some, Bool.true_and, reduceCtorEq, Nat.reduceBNe, show ((0 : Nat) != 3) = true from rfl, show ((0 : Nat) = 3) = False from eq_false (by decide)]
  exact H _
set_option maxRecDepth 100000 in
set_option maxHeartbeats 8000000 in
theorem fc11 {gl : Nat → C} {M : Nat} {pu : Nat → List C → Option C}  (hcx : CxOK (cxP gl M pu)) (h37 : ∀ (l : List Int) (b w : Int), LI l → (-9223372036854775808 ≤ b ∧ b ≤ 9223372036854775807) → (-9223372036854775808 ≤ w ∧ w ≤ 9223372036854775807) → Fine l b w → pu 37 [sl iC .no l, .val (.int .i64 b), .val (.int .i64 w)] = some (.tup [.agg [sl iC .no (sumsL l b l.length), .val (.int .i64 b), .val (.int .i64 w)], .val (nI 0)])) (h37e : ∀ (l : List Int) (b w : Int), LI l → (-9223372036854775808 ≤ b ∧ b ≤ 9223372036854775807) → (-9223372036854775808 ≤ w ∧ w ≤ 9223372036854775807) → errE l b w ≠ 0 → pu 37 [sl iC .no l, .val (.int .i64 b), .val (.int .i64 w)] = some (.tup [.agg [.val (.slice none 0 0), .val (nI 0), .val (nI 0)], .val (nI (errE l b w))])) (h38 : ∀ (S : List Int) (b w : Int), Col S b w → pu 38 [.agg [sl iC .no S, .val (.int .i64 b), .val (.int .i64 w)]] = some (.val (nI (S.length - 1)))) (h39 : ∀ (S : List Int) (b w i j : Int), Col S b w → 0 ≤ i ∧ i < S.length ∧ 0 ≤ j ∧ j < S.length → pu 39 [.agg [sl iC .no S, .val (.int .i64 b), .val (.int .i64 w)], .val (.int .i64 i), .val (.int .i64 j)] = some (.val (.int .i64 (freS S b w i j)))) (h40 : ∀ (S : List Int) (b w i j : Int), Col S b w → 0 ≤ i ∧ i < S.length ∧ 0 ≤ j ∧ j < S.length → pu 40 [.agg [sl iC .no S, .val (.int .i64 b), .val (.int .i64 w)], .val (.int .i64 i), .val (.int .i64 j)] = some (.val (.int .i64 (priS S b w i j)))) (h41 : ∀ a1 a2 b1 b2 : Int, pu 41 [sl iC .no [a1, a2], sl iC .no [b1, b2]] = some (.val (.bool (befI a1 a2 b1 b2)))) (l : List Int) (b w : Int) (hl : LI l) (hb : -9223372036854775808 ≤ b ∧ b ≤ 9223372036854775807) (hw : -9223372036854775808 ≤ w ∧ w ≤ 9223372036854775807) : FC Try.prog gl 11 [sl iC .no l, .val (.int .i64 b), .val (.int .i64 w)] [] (.tup [.agg [sl iC .no (fillT l b w).1, sl iC .no (fillT l b w).2.1, sl iC .no (fillT l b w).2.2.1], .val (nI (fillT l b w).2.2.2)]) [] := by
 replace hcx := hcx.reN (M := 131)
 refine FC.ofA (cx := cxP gl 131 pu) (rs := [.cell 6 28, .tmp 7]) rfl Try.func11 rfl rfl rfl (by simp only [List.length_cons, List.length_nil]; decide) (by simp only [go_sem]) ?_
 simp only [ini, go_sem]
 have hl1 := hl.1
 have hsL := True.intro
 have hsK := True.intro
 have hsF := True.intro
 refine Tr.seqK fun K1 hK1 => ?_
 refine Tr.rg hcx [] _ [none] rfl rfl rfl ?_
 simp -implicitDefEqProofs (maxSteps := 2000000) (disch := first | omega | (simp only [go_sem, List.length_append, List.length_drop, List.length_take, hsL, hsK, hsF] <;> omega) | decide) only [go_sem, ↓reduceIte, Nat.reduceEqDiff, reduceCtorEq, Nat.reduceLT, Nat.reduceBEq, Nat.reduceAdd, Nat.reduceSub, Nat.reduceMul, Nat.reduceMod, hsL, hsK, hsF]
 refine hK1 _ ?_
 clear hK1 K1
 refine Tr.kp [0, 1, 2, 6] ?_
 simp only [pk_cons, pk_nil, ↓A_cons, ↓reduceIte, Nat.reduceEqDiff]
 refine Tr.seqK fun K2 hK2 => ?_
 by_cases b0 : errE l b w = 0
 ·
  have hF := errE_0.1 b0
  have h37' := h37 l b w hl hb hw hF
  have hF1 := hF.1
  have hcol := fine_col hF
  have hSl := sumsL_len l b l.length
  have h38' := h38 (sumsL l b l.length) b w hcol
  rw [show (sumsL l b l.length).length - 1 = l.length by omega] at h38'
  refine Tr.rg hcx [1000025] _ [none] rfl rfl rfl ?_
  simp -implicitDefEqProofs (maxSteps := 2000000) (disch := first | omega | (simp only [go_sem, List.length_append, List.length_drop, List.length_take, hsL, hsK, hsF] <;> omega) | decide) only [go_sem, ↓reduceIte, Nat.reduceEqDiff, reduceCtorEq, Nat.reduceLT, Nat.reduceBEq, Nat.reduceAdd, Nat.reduceSub, Nat.reduceMul, Nat.reduceMod, hsL, hsK, hsF, b0, h37']
  refine hK2 _ ?_
  clear hK2 K2
  refine Tr.kp [6, 8, 9] ?_
  simp only [pk_cons, pk_nil, ↓A_cons, ↓reduceIte, Nat.reduceEqDiff]
  refine Tr.seqK fun K3 hK3 => ?_
  refine Tr.seqK fun K4 hK4 => ?_
  refine Tr.rg hcx [] _ [] rfl rfl rfl ?_
  simp -implicitDefEqProofs (maxSteps := 2000000) (disch := first | omega | (simp only [go_sem, List.length_append, List.length_drop, List.length_take, hsL, hsK, hsF] <;> omega) | decide) only [go_sem, ↓reduceIte, Nat.reduceEqDiff, reduceCtorEq, Nat.reduceLT, Nat.reduceBEq, Nat.reduceAdd, Nat.reduceSub, Nat.reduceMul, Nat.reduceMod, hsL, hsK, hsF, b0]
  refine hK4 _ ?_
  clear hK4 K4
  refine Tr.kp [6, 8, 9, 27] ?_
  simp only [pk_cons, pk_nil, ↓A_cons, ↓reduceIte, Nat.reduceEqDiff]
  refine Tr.condG fun KT KF hT hF => ?_
  simp only [ev_tmp, ev_const, ↓A_cons, ↓reduceIte, Nat.reduceEqDiff, reduceCtorEq, condG_bool, GB_true, GB_false, decide_eq_true_eq]
  refine hF ?_
  clear hT hF KT KF
  refine Tr.skip ?_
  refine hK3 _ ?_
  clear hK3 K3
  refine Tr.kp [6, 8] ?_
  simp only [pk_cons, pk_nil, ↓A_cons, ↓reduceIte, Nat.reduceEqDiff]
  refine Tr.seqK fun K5 hK5 => ?_
  refine Tr.rg hcx [1000031] _ [] rfl rfl rfl ?_
  simp -implicitDefEqProofs (maxSteps := 2000000) (disch := first | omega | (simp only [go_sem, List.length_append, List.length_drop, List.length_take, hsL, hsK, hsF] <;> omega) | decide) only [go_sem, ↓reduceIte, Nat.reduceEqDiff, reduceCtorEq, Nat.reduceLT, Nat.reduceBEq, Nat.reduceAdd, Nat.reduceSub, Nat.reduceMul, Nat.reduceMod, hsL, hsK, hsF, b0, h38']
  refine hK5 _ ?_
  clear hK5 K5
  refine Tr.kp [6, 8, 10] ?_
  simp only [pk_cons, pk_nil, ↓A_cons, ↓reduceIte, Nat.reduceEqDiff]
  refine Tr.seqK fun K6 hK6 => ?_
  refine Tr.rgD hcx hMO [] _ [none, none, none] rfl rfl rfl rfl ?_
  simp -implicitDefEqProofs (maxSteps := 2000000) (disch := first | omega | (simp only [go_sem, List.length_append, List.length_drop, List.length_take, hsL, hsK, hsF] <;> omega) | decide) only [go_sem, ↓reduceIte, Nat.reduceEqDiff, reduceCtorEq, Nat.reduceLT, Nat.reduceBEq, Nat.reduceAdd, Nat.reduceSub, Nat.reduceMul, Nat.reduceMod, hsL, hsK, hsF, b0]
  with_reducible refine And.intro ?_ ?_
  · exact rfl
  refine hK6 _ ?_
  clear hK6 K6
  refine Tr.kp [6, 8, 10, 11] ?_
  simp only [pk_cons, pk_nil, ↓A_cons, ↓reduceIte, Nat.reduceEqDiff]
  refine Tr.seqK fun K7 hK7 => ?_
  refine Tr.rg hcx [1000040] _ [none] rfl rfl rfl ?_
  simp -implicitDefEqProofs (maxSteps := 2000000) (disch := first | omega | (simp only [go_sem, List.length_append, List.length_drop, List.length_take, hsL, hsK, hsF] <;> omega) | decide) only [go_sem, ↓reduceIte, Nat.reduceEqDiff, reduceCtorEq, Nat.reduceLT, Nat.reduceBEq, Nat.reduceAdd, Nat.reduceSub, Nat.reduceMul, Nat.reduceMod, hsL, hsK, hsF, b0]
  refine hK7 _ ?_
  clear hK7 K7
  refine Tr.kp [6, 8, 10, 11, 12] ?_
  simp only [pk_cons, pk_nil, ↓A_cons, ↓reduceIte, Nat.reduceEqDiff]
  refine Tr.seqK fun K8 hK8 => ?_
  refine Tr.seqK fun K9 hK9 => ?_
  refine Tr.rg hcx [] _ [] rfl rfl rfl ?_
  simp -implicitDefEqProofs (maxSteps := 2000000) (disch := first | omega | (simp only [go_sem, List.length_append, List.length_drop, List.length_take, hsL, hsK, hsF] <;> omega) | decide) only [go_sem, ↓reduceIte, Nat.reduceEqDiff, reduceCtorEq, Nat.reduceLT, Nat.reduceBEq, Nat.reduceAdd, Nat.reduceSub, Nat.reduceMul, Nat.reduceMod, hsL, hsK, hsF, b0]
  refine hK9 _ ?_
  clear hK9 K9
  refine Tr.kp [6, 8, 10, 11, 12, 41, 42] ?_
  simp only [pk_cons, pk_nil, ↓A_cons, ↓reduceIte, Nat.reduceEqDiff]
  refine Tr.blk ?_
  refine Tr.loopI (α := Nat) (fun a => [(6, ?v6_22), (8, ?v8_22), (10, ?v10_22), (11, ?v11_22), (12, ?v12_22), (41, ?v41_22), (42, .val (nI a))]) (fun a => [some [.val (.slice none 0 0), .val (.slice none 0 0), .val (.slice none 0 0)], some [sl iC .no (sumsL l b l.length), .val (.int .i64 b), .val (.int .i64 w)], some (cl iC (dp l b w a).1), some (cl iC (dp l b w a).2), some [.val (.slice none 0 0), .sv 2 0 (l.length + 1), .sv 3 0 (l.length + 1)], some (cl iC (FL l b w l.length a))]) (fun a => a ≤ l.length ∧ ∀ k, l.length ≤ k + a → k < l.length → gt l k ≤ w) (fun a => l.length - a) (0) ⟨Nat.zero_le _, fun k h1 h2 => by omega⟩ ?le_22 ?hh_22 ?bd_22
  case hh_22 => exact by rw [FL_0]; rfl
  case le_22 => (simp only [Le_nil, Le_cons, ↓A_cons, ↓reduceIte, Nat.reduceEqDiff, reduceCtorEq, CLe_refl, CLe_top, CLe_full, CLe_nil, CLe_own, and_true, true_and]; all_goals (repeat' first | exact CLe.refl _ | exact True.intro | (refine CLe_sln ?_; first | with_reducible rfl | (simp only [List.take_zero]; done) | (rfl; done)) | exact CLe_nI (by omega) | exact CLe_int (by omega) | exact CLe_inI (by omega) | exact CLe_nIi (by omega) | with_reducible apply And.intro))
  case bd_22 =>
   rintro c ⟨hc, hA⟩
   refine Tr.seqK fun K10 hK10 => ?_
   refine Tr.rg hcx [] _ [] rfl rfl rfl ?_
   simp -implicitDefEqProofs (maxSteps := 2000000) (disch := first | omega | (simp only [go_sem, List.length_append, List.length_drop, List.length_take, hsL, hsK, hsF] <;> omega) | decide) only [go_sem, ↓reduceIte, Nat.reduceEqDiff, reduceCtorEq, Nat.reduceLT, Nat.reduceBEq, Nat.reduceAdd, Nat.reduceSub, Nat.reduceMul, Nat.reduceMod, hsL, hsK, hsF, b0]
   refine hK10 _ ?_
   clear hK10 K10
   refine Tr.kp [6, 8, 10, 11, 12, 41, 42, 43] ?_
   simp only [pk_cons, pk_nil, ↓A_cons, ↓reduceIte, Nat.reduceEqDiff]
   refine Tr.seqK fun K11 hK11 => ?_
   refine Tr.condG fun KT KF hT hF => ?_
   simp only [ev_tmp, ev_const, ↓A_cons, ↓reduceIte, Nat.reduceEqDiff, reduceCtorEq, condG_bool, GB_true, GB_false, decide_eq_true_eq]
   refine GB.dec (fun hc43 => hT ?_) (fun hc43 => hF ?_)
   ·
    clear hT hF KT KF
    have hsL := (dp_len l b w c).1
    have hsK := (dp_len l b w c).2
    have hsF := FL_len l b w l.length c
    refine Tr.skip ?_
    refine hK11 _ ?_
    clear hK11 K11
    refine Tr.kp [6, 8, 10, 11, 12, 41, 42] ?_
    simp only [pk_cons, pk_nil, ↓A_cons, ↓reduceIte, Nat.reduceEqDiff]
    refine Tr.seqK fun K12 hK12 => ?_
    refine Tr.blk ?_
    refine Tr.seqK fun K13 hK13 => ?_
    refine Tr.rg hcx [1000044] _ [] rfl rfl rfl ?_
    simp -implicitDefEqProofs (maxSteps := 2000000) (disch := first | omega | (simp only [go_sem, List.length_append, List.length_drop, List.length_take, hsL, hsK, hsF] <;> omega) | decide) only [go_sem, ↓reduceIte, Nat.reduceEqDiff, reduceCtorEq, Nat.reduceLT, Nat.reduceBEq, Nat.reduceAdd, Nat.reduceSub, Nat.reduceMul, Nat.reduceMod, hsL, hsK, hsF, b0]
    refine hK13 _ ?_
    clear hK13 K13
    refine Tr.kp [6, 8, 10, 11, 12, 13, 41, 42] ?_
    simp only [pk_cons, pk_nil, ↓A_cons, ↓reduceIte, Nat.reduceEqDiff]
    refine Tr.seqK fun K14 hK14 => ?_
    refine Tr.rg hcx [1000048] _ [] rfl rfl rfl ?_
    simp -implicitDefEqProofs (maxSteps := 2000000) (disch := first | omega | (simp only [go_sem, List.length_append, List.length_drop, List.length_take, hsL, hsK, hsF] <;> omega) | decide) only [go_sem, ↓reduceIte, Nat.reduceEqDiff, reduceCtorEq, Nat.reduceLT, Nat.reduceBEq, Nat.reduceAdd, Nat.reduceSub, Nat.reduceMul, Nat.reduceMod, hsL, hsK, hsF, b0]
    refine hK14 _ ?_
    clear hK14 K14
    refine Tr.kp [6, 8, 10, 11, 12, 14, 41, 42] ?_
    simp only [pk_cons, pk_nil, ↓A_cons, ↓reduceIte, Nat.reduceEqDiff]
    refine Tr.seqK fun K15 hK15 => ?_
    refine Tr.seqK fun K16 hK16 => ?_
    generalize hk : l.length - 1 - c = k
    have hgk := hF.2.2.2 k (by omega)
    have h39' := (h39 (sumsL l b l.length) b w (k : Int) ((k : Int) + 1) hcol ⟨by omega, by omega, by omega, by omega⟩).trans (congrArg (fun z => some (C.val (.int .i64 z))) ((freS_R (by omega) (by omega) (by omega)).trans (freR_1 k)))
    have h39n : pu 39 [.agg [sl iC .no (sumsL l b l.length), .val (.int .i64 b), .val (.int .i64 w)], .val (nI k), .val (nI (k + 1))] = some (.val (.int .i64 (w - gt l k))) := h39'
    refine Tr.rg hcx [] _ [] rfl rfl rfl ?_
    simp -implicitDefEqProofs (maxSteps := 2000000) (disch := first | omega | (simp only [go_sem, List.length_append, List.length_drop, List.length_take, hsL, hsK, hsF] <;> omega) | decide) only [go_sem, ↓reduceIte, Nat.reduceEqDiff, reduceCtorEq, Nat.reduceLT, Nat.reduceBEq, Nat.reduceAdd, Nat.reduceSub, Nat.reduceMul, Nat.reduceMod, hsL, hsK, hsF, b0, h39n]
    refine hK16 _ ?_
    clear hK16 K16
    refine Tr.kp [6, 8, 10, 11, 12, 14, 41, 42, 54] ?_
    simp only [pk_cons, pk_nil, ↓A_cons, ↓reduceIte, Nat.reduceEqDiff]
    refine Tr.condG fun KT KF hT hF => ?_
    simp only [ev_tmp, ev_const, ↓A_cons, ↓reduceIte, Nat.reduceEqDiff, reduceCtorEq, condG_bool, GB_true, GB_false, decide_eq_true_eq]
    refine GB.dec (fun hc54 => hT ?_) (fun hc54 => hF ?_)
    ·
     clear hT hF KT KF
     have hwide := wideW_T (l := l) (w := w) (i := k) (by omega) (by omega)
     refine Tr.seqK fun K17 hK17 => ?_
     refine Tr.rg hcx [] _ [] rfl rfl rfl ?_
     simp -implicitDefEqProofs (maxSteps := 2000000) (disch := first | omega | (simp only [go_sem, List.length_append, List.length_drop, List.length_take, hsL, hsK, hsF] <;> omega) | decide) only [go_sem, ↓reduceIte, Nat.reduceEqDiff, reduceCtorEq, Nat.reduceLT, Nat.reduceBEq, Nat.reduceAdd, Nat.reduceSub, Nat.reduceMul, Nat.reduceMod, hsL, hsK, hsF, b0]
     refine hK17 _ ?_
     clear hK17 K17
     refine Tr.kp [6, 7] ?_
     simp only [pk_cons, pk_nil, ↓A_cons, ↓reduceIte, Nat.reduceEqDiff]
     first | refine Tr.cert0 ?_ | (refine Tr.certF hcx (by rw [(dp_len l b w l.length).1]) (by rw [(dp_len l b w l.length).2]) (Nat.succ_pos _) fun _ => ?_)
     refine Tr.ret ?_
     simp -implicitDefEqProofs (disch := first | omega | (simp only [go_sem, List.length_append, List.length_drop, List.length_take, hsL, hsK, hsF] <;> omega) | decide) only [go_sem, ↓reduceIte, Nat.reduceEqDiff, reduceCtorEq]
     all_goals (first | (rw [fill_e b0]; try rfl) | (rw [fill_w b0 hwide]; try rfl) | (rw [fill_0 b0 hw0, ← hr]; try rfl))
    ·
     clear hT hF KT KF
     have hkw : gt l k ≤ w := by omega
     have hall : ∀ q, k ≤ q → q < l.length → gt l q ≤ w := fun q h1 h2 => (if hq : q = k then hq ▸ hkw else hA q (by omega) h2)
     refine Tr.skip ?_
     refine hK15 _ ?_
     clear hK15 K15
     refine Tr.kp [6, 8, 10, 11, 12, 14, 41, 42] ?_
     simp only [pk_cons, pk_nil, ↓A_cons, ↓reduceIte, Nat.reduceEqDiff]
     refine Tr.seqK fun K18 hK18 => ?_
     refine Tr.rg hcx [] _ [] rfl rfl rfl ?_
     simp -implicitDefEqProofs (maxSteps := 2000000) (disch := first | omega | (simp only [go_sem, List.length_append, List.length_drop, List.length_take, hsL, hsK, hsF] <;> omega) | decide) only [go_sem, ↓reduceIte, Nat.reduceEqDiff, reduceCtorEq, Nat.reduceLT, Nat.reduceBEq, Nat.reduceAdd, Nat.reduceSub, Nat.reduceMul, Nat.reduceMod, hsL, hsK, hsF, b0]
     refine hK18 _ ?_
     clear hK18 K18
     refine Tr.kp [6, 8, 10, 11, 12, 14, 15, 41, 42] ?_
     simp only [pk_cons, pk_nil, ↓A_cons, ↓reduceIte, Nat.reduceEqDiff]
     refine Tr.seqK fun K19 hK19 => ?_
     refine Tr.seqK fun K20 hK20 => ?_
     refine Tr.rg hcx [1000057] _ [] rfl rfl rfl ?_
     simp -implicitDefEqProofs (maxSteps := 2000000) (disch := first | omega | (simp only [go_sem, List.length_append, List.length_drop, List.length_take, hsL, hsK, hsF] <;> omega) | decide) only [go_sem, ↓reduceIte, Nat.reduceEqDiff, reduceCtorEq, Nat.reduceLT, Nat.reduceBEq, Nat.reduceAdd, Nat.reduceSub, Nat.reduceMul, Nat.reduceMod, hsL, hsK, hsF, b0]
     refine hK20 _ ?_
     clear hK20 K20
     refine Tr.kp [6, 8, 10, 11, 12, 14, 15, 16, 41, 42] ?_
     simp only [pk_cons, pk_nil, ↓A_cons, ↓reduceIte, Nat.reduceEqDiff]
     refine Tr.blk ?_
     refine Tr.loopI (α := Nat) (fun a => [(6, ?v6_49), (8, ?v8_49), (10, ?v10_49), (11, ?v11_49), (12, ?v12_49), (14, ?v14_49), (15, (if a = 0 then .val (.slice none 0 0) else sl iC .full [(bst l b w (dp l b w c).1 (dp l b w c).2 k a).1, (bst l b w (dp l b w c).1 (dp l b w c).2 k a).2.1])), (16, .val (nI (k + 1 + a))), (41, ?v41_49), (42, ?v42_49)]) (fun a => [some [.val (.slice none 0 0), .val (.slice none 0 0), .val (.slice none 0 0)], some [sl iC .no (sumsL l b l.length), .val (.int .i64 b), .val (.int .i64 w)], some (cl iC (dp l b w c).1), some (cl iC (dp l b w c).2), some [.val (.slice none 0 0), .sv 2 0 (l.length + 1), .sv 3 0 (l.length + 1)], some (cl iC (if a = 0 then FL l b w l.length c else (FL l b w l.length c).set k (((bst l b w (dp l b w c).1 (dp l b w c).2 k a).2.2 : Nat) : Int)))]) (fun a => k + 1 + a ≤ l.length + 1 ∧ ∀ q, q < a → 0 ≤ freR l b w (k : Int) ((k + 1 + q : Nat) : Int)) (fun a => l.length + 1 - a) (0) ⟨by omega, fun q hq => absurd hq (Nat.not_lt_zero q)⟩ ?le_49 ?hh_49 ?bd_49
     case hh_49 => exact rfl
     case le_49 => (simp only [Le_nil, Le_cons, ↓A_cons, ↓reduceIte, Nat.reduceEqDiff, reduceCtorEq, CLe_refl, CLe_top, CLe_full, CLe_nil, CLe_own, and_true, true_and]; all_goals (repeat' first | exact CLe.refl _ | exact True.intro | (refine CLe_sln ?_; first | with_reducible rfl | (simp only [List.take_zero]; done) | (rfl; done)) | exact CLe_nI (by omega) | exact CLe_int (by omega) | exact CLe_inI (by omega) | exact CLe_nIi (by omega) | with_reducible apply And.intro)); all_goals first | exact CLe.refl _ | exact CLe_nI (by omega)
     case bd_49 =>
      rintro m ⟨hm, hfr⟩
      refine Tr.seqK fun K21 hK21 => ?_
      refine Tr.seqK fun K22 hK22 => ?_
      by_cases e1 : k + 1 + m ≤ l.length
      ·
       have e1o := e1
       replace e1 := eq_true e1
       have h39' := (h39 (sumsL l b l.length) b w (k : Int) (((k + 1 + m) : Nat) : Int) hcol ⟨by omega, by omega, by omega, by omega⟩).trans (congrArg (fun z => some (C.val (.int .i64 z))) (freS_R (by omega) (by omega) (by omega)))
       have h39m : pu 39 [.agg [sl iC .no (sumsL l b l.length), .val (.int .i64 b), .val (.int .i64 w)], .val (nI k), .val (nI (k + 1 + m))] = some (.val (.int .i64 (freR l b w (k : Int) (((k + 1 + m) : Nat) : Int)))) := h39'
       by_cases e2 : ((0 : Nat) : Int) ≤ freR l b w (k : Int) (((k + 1 + m) : Nat) : Int)
       ·
        have e2o := e2
        replace e2 := eq_true e2
        have h40' := (h40 (sumsL l b l.length) b w (k : Int) (((k + 1 + m) : Nat) : Int) hcol ⟨by omega, by omega, by omega, by omega⟩).trans (congrArg (fun z => some (C.val (.int .i64 z))) (priS_R (by omega) (by omega) (by omega)))
        have h40m : pu 40 [.agg [sl iC .no (sumsL l b l.length), .val (.int .i64 b), .val (.int .i64 w)], .val (nI k), .val (nI (k + 1 + m))] = some (.val (.int .i64 (priR l b w (k : Int) (((k + 1 + m) : Nat) : Int)))) := h40'
        have hpb := priR_b hF (i := (k : Int)) (j := (((k + 1 + m) : Nat) : Int)) (by omega) (by omega)
        have hdb := dp_bc hF c (by omega) hA ((k + 1 + m)) (by omega)
        have h41' := h41 (gt (dp l b w c).1 (k + 1 + m) + ((1 : Nat) : Int)) (gt (dp l b w c).2 (k + 1 + m) + priR l b w (k : Int) (((k + 1 + m) : Nat) : Int)) (bst l b w (dp l b w c).1 (dp l b w c).2 k m).1 (bst l b w (dp l b w c).1 (dp l b w c).2 k m).2.1
        refine Tr.rg hcx [] [some 58, some 59, some 60, some 61, some 62, some 63, some 64, some 65, some 66, some 67] [] rfl rfl rfl ?_
        simp -implicitDefEqProofs (maxSteps := 2000000) (disch := first | omega | (simp only [go_sem, List.length_append, List.length_drop, List.length_take, hsL, hsK, hsF] <;> omega) | decide) only [go_sem, ↓reduceIte, Nat.reduceEqDiff, reduceCtorEq, Nat.reduceLT, Nat.reduceBEq, Nat.reduceAdd, Nat.reduceSub, Nat.reduceMul, Nat.reduceMod, hsL, hsK, hsF, b0, e1, e2, h39m]
        refine hK22 _ ?_
        clear hK22 K22
        refine Tr.kp [6, 8, 10, 11, 12, 14, 15, 16, 41, 42, 67] ?_
        simp only [pk_cons, pk_nil, ↓A_cons, ↓reduceIte, Nat.reduceEqDiff]
        refine Tr.condG fun KT KF hT hF => ?_
        simp only [ev_tmp, ev_const, ↓A_cons, ↓reduceIte, Nat.reduceEqDiff, reduceCtorEq, condG_bool, GB_true, GB_false, decide_eq_true_eq]
        refine hT ?_
        clear hT hF KT KF
        refine Tr.skip ?_
        refine hK21 _ ?_
        clear hK21 K21
        refine Tr.kp [6, 8, 10, 11, 12, 14, 15, 16, 41, 42] ?_
        simp only [pk_cons, pk_nil, ↓A_cons, ↓reduceIte, Nat.reduceEqDiff]
        refine Tr.seqK fun K23 hK23 => ?_
        refine Tr.blk ?_
        refine Tr.seqK fun K24 hK24 => ?_
        refine Tr.rgD hcx hMO [1000086] _ [] rfl rfl rfl rfl ?_
        simp -implicitDefEqProofs (maxSteps := 2000000) (disch := first | omega | (simp only [go_sem, List.length_append, List.length_drop, List.length_take, hsL, hsK, hsF] <;> omega) | decide) only [go_sem, ↓reduceIte, Nat.reduceEqDiff, reduceCtorEq, Nat.reduceLT, Nat.reduceBEq, Nat.reduceAdd, Nat.reduceSub, Nat.reduceMul, Nat.reduceMod, hsL, hsK, hsF, b0, e1, e2, h40m]
        with_reducible refine And.intro ?_ ?_
        · exact rfl
        refine hK24 _ ?_
        clear hK24 K24
        refine Tr.kp [6, 8, 10, 11, 12, 14, 15, 16, 17, 41, 42] ?_
        simp only [pk_cons, pk_nil, ↓A_cons, ↓reduceIte, Nat.reduceEqDiff]
        refine Tr.seqK fun K25 hK25 => ?_
        by_cases m0 : m = 0
        ·
         have m0o := m0
         replace m0 := eq_true m0
         have hbs := bst_T (l := l) (b := b) (w := w) (L := (dp l b w c).1) (K := (dp l b w c).2) (k := k) (m := m) (.inl m0o)
         refine Tr.rg hcx [] [some 87, some 88, some 89, some 90, some 91, some 92, some 93] [] rfl rfl rfl ?_
         simp -implicitDefEqProofs (maxSteps := 2000000) (disch := first | omega | (simp only [go_sem, List.length_append, List.length_drop, List.length_take, hsL, hsK, hsF] <;> omega) | decide) only [go_sem, ↓reduceIte, Nat.reduceEqDiff, reduceCtorEq, Nat.reduceLT, Nat.reduceBEq, Nat.reduceAdd, Nat.reduceSub, Nat.reduceMul, Nat.reduceMod, hsL, hsK, hsF, b0, e1, e2, m0, h41']
         refine hK25 _ ?_
         clear hK25 K25
         refine Tr.kp [6, 8, 10, 11, 12, 14, 15, 16, 17, 41, 42, 93] ?_
         simp only [pk_cons, pk_nil, ↓A_cons, ↓reduceIte, Nat.reduceEqDiff]
         refine Tr.condG fun KT KF hT hF => ?_
         simp only [ev_tmp, ev_const, ↓A_cons, ↓reduceIte, Nat.reduceEqDiff, reduceCtorEq, condG_bool, GB_true, GB_false, decide_eq_true_eq]
         refine hT ?_
         clear hT hF KT KF
         refine Tr.rg hcx [1000096] _ [] rfl rfl rfl ?_
         simp -implicitDefEqProofs (maxSteps := 2000000) (disch := first | omega | (simp only [go_sem, List.length_append, List.length_drop, List.length_take, hsL, hsK, hsF] <;> omega) | decide) only [go_sem, ↓reduceIte, Nat.reduceEqDiff, reduceCtorEq, Nat.reduceLT, Nat.reduceBEq, Nat.reduceAdd, Nat.reduceSub, Nat.reduceMul, Nat.reduceMod, hsL, hsK, hsF, b0, e1, e2, m0]
         refine hK23 _ ?_
         clear hK23 K23
         refine Tr.kp [6, 8, 10, 11, 12, 14, 15, 16, 41, 42] ?_
         simp only [pk_cons, pk_nil, ↓A_cons, ↓reduceIte, Nat.reduceEqDiff]
         refine Tr.rg hcx [1000069] _ [] rfl rfl rfl ?_
         simp -implicitDefEqProofs (maxSteps := 2000000) (disch := first | omega | (simp only [go_sem, List.length_append, List.length_drop, List.length_take, hsL, hsK, hsF] <;> omega) | decide) only [go_sem, ↓reduceIte, Nat.reduceEqDiff, reduceCtorEq, Nat.reduceLT, Nat.reduceBEq, Nat.reduceAdd, Nat.reduceSub, Nat.reduceMul, Nat.reduceMod, hsL, hsK, hsF, b0, e1, e2, m0]
         refine ⟨m + 1, ⟨⟨by omega, fun q hq => (Nat.lt_or_eq_of_le (Nat.le_of_lt_succ hq)).elim (hfr q) (fun e => e ▸ e2o)⟩, by first | omega | (simp only []; omega)⟩, ?_, by dsimp only; rw [if_neg (Nat.succ_ne_zero m), hbs]; try (first | rfl | (rw [List.set_set]))⟩
         (simp only [Le_nil, Le_cons, ↓A_cons, ↓reduceIte, Nat.reduceEqDiff, reduceCtorEq, CLe_refl, CLe_top, CLe_full, CLe_nil, CLe_own, and_true, true_and]; all_goals (repeat' first | exact CLe.refl _ | exact True.intro | (refine CLe_sln ?_; first | with_reducible rfl | (simp only [List.take_zero]; done) | (rfl; done)) | exact CLe_nI (by omega) | exact CLe_int (by omega) | exact CLe_inI (by omega) | exact CLe_nIi (by omega) | with_reducible apply And.intro))
         all_goals first | (rw [if_neg (Nat.succ_ne_zero m), hbs]; exact CLe.refl _) | (rw [hbs]; exact CLe.refl _)
        ·
         have m0o := m0
         replace m0 := eq_false m0
         by_cases g1 : befI (gt (dp l b w c).1 (k + 1 + m) + ((1 : Nat) : Int)) (gt (dp l b w c).2 (k + 1 + m) + priR l b w (k : Int) (((k + 1 + m) : Nat) : Int)) (bst l b w (dp l b w c).1 (dp l b w c).2 k m).1 (bst l b w (dp l b w c).1 (dp l b w c).2 k m).2.1 = true
         ·
          have hbs := bst_T (l := l) (b := b) (w := w) (L := (dp l b w c).1) (K := (dp l b w c).2) (k := k) (m := m) (.inr g1)
          refine Tr.rg hcx [] [some 87, some 88, some 89, some 90, some 91, some 92, some 93] [] rfl rfl rfl ?_
          simp -implicitDefEqProofs (maxSteps := 2000000) (disch := first | omega | (simp only [go_sem, List.length_append, List.length_drop, List.length_take, hsL, hsK, hsF] <;> omega) | decide) only [go_sem, ↓reduceIte, Nat.reduceEqDiff, reduceCtorEq, Nat.reduceLT, Nat.reduceBEq, Nat.reduceAdd, Nat.reduceSub, Nat.reduceMul, Nat.reduceMod, hsL, hsK, hsF, b0, e1, e2, m0, g1, h41']
          refine hK25 _ ?_
          clear hK25 K25
          refine Tr.kp [6, 8, 10, 11, 12, 14, 15, 16, 17, 41, 42, 93] ?_
          simp only [pk_cons, pk_nil, ↓A_cons, ↓reduceIte, Nat.reduceEqDiff]
          refine Tr.condG fun KT KF hT hF => ?_
          simp only [ev_tmp, ev_const, ↓A_cons, ↓reduceIte, Nat.reduceEqDiff, reduceCtorEq, condG_bool, GB_true, GB_false, decide_eq_true_eq]
          refine hT ?_
          clear hT hF KT KF
          refine Tr.rg hcx [1000096] _ [] rfl rfl rfl ?_
          simp -implicitDefEqProofs (maxSteps := 2000000) (disch := first | omega | (simp only [go_sem, List.length_append, List.length_drop, List.length_take, hsL, hsK, hsF] <;> omega) | decide) only [go_sem, ↓reduceIte, Nat.reduceEqDiff, reduceCtorEq, Nat.reduceLT, Nat.reduceBEq, Nat.reduceAdd, Nat.reduceSub, Nat.reduceMul, Nat.reduceMod, hsL, hsK, hsF, b0, e1, e2, m0, g1]
          refine hK23 _ ?_
          clear hK23 K23
          refine Tr.kp [6, 8, 10, 11, 12, 14, 15, 16, 41, 42] ?_
          simp only [pk_cons, pk_nil, ↓A_cons, ↓reduceIte, Nat.reduceEqDiff]
          refine Tr.rg hcx [1000069] _ [] rfl rfl rfl ?_
          simp -implicitDefEqProofs (maxSteps := 2000000) (disch := first | omega | (simp only [go_sem, List.length_append, List.length_drop, List.length_take, hsL, hsK, hsF] <;> omega) | decide) only [go_sem, ↓reduceIte, Nat.reduceEqDiff, reduceCtorEq, Nat.reduceLT, Nat.reduceBEq, Nat.reduceAdd, Nat.reduceSub, Nat.reduceMul, Nat.reduceMod, hsL, hsK, hsF, b0, e1, e2, m0, g1]
          refine ⟨m + 1, ⟨⟨by omega, fun q hq => (Nat.lt_or_eq_of_le (Nat.le_of_lt_succ hq)).elim (hfr q) (fun e => e ▸ e2o)⟩, by first | omega | (simp only []; omega)⟩, ?_, by dsimp only; rw [if_neg (Nat.succ_ne_zero m), hbs]; try (first | rfl | (rw [List.set_set]))⟩
          (simp only [Le_nil, Le_cons, ↓A_cons, ↓reduceIte, Nat.reduceEqDiff, reduceCtorEq, CLe_refl, CLe_top, CLe_full, CLe_nil, CLe_own, and_true, true_and]; all_goals (repeat' first | exact CLe.refl _ | exact True.intro | (refine CLe_sln ?_; first | with_reducible rfl | (simp only [List.take_zero]; done) | (rfl; done)) | exact CLe_nI (by omega) | exact CLe_int (by omega) | exact CLe_inI (by omega) | exact CLe_nIi (by omega) | with_reducible apply And.intro))
          all_goals first | (rw [if_neg (Nat.succ_ne_zero m), hbs]; exact CLe.refl _) | (rw [hbs]; exact CLe.refl _)
         ·
          replace g1 : befI (gt (dp l b w c).1 (k + 1 + m) + ((1 : Nat) : Int)) (gt (dp l b w c).2 (k + 1 + m) + priR l b w (k : Int) (((k + 1 + m) : Nat) : Int)) (bst l b w (dp l b w c).1 (dp l b w c).2 k m).1 (bst l b w (dp l b w c).1 (dp l b w c).2 k m).2.1 = false := by simpa using g1
          have hbs := bst_F (l := l) (b := b) (w := w) (L := (dp l b w c).1) (K := (dp l b w c).2) (k := k) (m := m) m0o g1
          refine Tr.rg hcx [] [some 87, some 88, some 89, some 90, some 91, some 92, some 93] [] rfl rfl rfl ?_
          simp -implicitDefEqProofs (maxSteps := 2000000) (disch := first | omega | (simp only [go_sem, List.length_append, List.length_drop, List.length_take, hsL, hsK, hsF] <;> omega) | decide) only [go_sem, ↓reduceIte, Nat.reduceEqDiff, reduceCtorEq, Nat.reduceLT, Nat.reduceBEq, Nat.reduceAdd, Nat.reduceSub, Nat.reduceMul, Nat.reduceMod, hsL, hsK, hsF, b0, e1, e2, m0, g1, h41']
          refine hK25 _ ?_
          clear hK25 K25
          refine Tr.kp [6, 8, 10, 11, 12, 14, 15, 16, 17, 41, 42, 93] ?_
          simp only [pk_cons, pk_nil, ↓A_cons, ↓reduceIte, Nat.reduceEqDiff]
          refine Tr.condG fun KT KF hT hF => ?_
          simp only [ev_tmp, ev_const, ↓A_cons, ↓reduceIte, Nat.reduceEqDiff, reduceCtorEq, condG_bool, GB_true, GB_false, decide_eq_true_eq]
          refine hF ?_
          clear hT hF KT KF
          refine Tr.skip ?_
          refine hK23 _ ?_
          clear hK23 K23
          refine Tr.kp [6, 8, 10, 11, 12, 14, 15, 16, 41, 42] ?_
          simp only [pk_cons, pk_nil, ↓A_cons, ↓reduceIte, Nat.reduceEqDiff]
          refine Tr.rg hcx [1000069] _ [] rfl rfl rfl ?_
          simp -implicitDefEqProofs (maxSteps := 2000000) (disch := first | omega | (simp only [go_sem, List.length_append, List.length_drop, List.length_take, hsL, hsK, hsF] <;> omega) | decide) only [go_sem, ↓reduceIte, Nat.reduceEqDiff, reduceCtorEq, Nat.reduceLT, Nat.reduceBEq, Nat.reduceAdd, Nat.reduceSub, Nat.reduceMul, Nat.reduceMod, hsL, hsK, hsF, b0, e1, e2, m0, g1]
          refine ⟨m + 1, ⟨⟨by omega, fun q hq => (Nat.lt_or_eq_of_le (Nat.le_of_lt_succ hq)).elim (hfr q) (fun e => e ▸ e2o)⟩, by first | omega | (simp only []; omega)⟩, ?_, by dsimp only; rw [if_neg (Nat.succ_ne_zero m), hbs]; try (first | rfl | (rw [List.set_set]))⟩
          (simp only [Le_nil, Le_cons, ↓A_cons, ↓reduceIte, Nat.reduceEqDiff, reduceCtorEq, CLe_refl, CLe_top, CLe_full, CLe_nil, CLe_own, and_true, true_and]; all_goals (repeat' first | exact CLe.refl _ | exact True.intro | (refine CLe_sln ?_; first | with_reducible rfl | (simp only [List.take_zero]; done) | (rfl; done)) | exact CLe_nI (by omega) | exact CLe_int (by omega) | exact CLe_inI (by omega) | exact CLe_nIi (by omega) | with_reducible apply And.intro))
          all_goals first | (rw [if_neg (Nat.succ_ne_zero m), hbs]; exact CLe.refl _) | (rw [hbs]; exact CLe.refl _)
       ·
        have e2o := e2
        replace e2 := eq_false e2
        refine Tr.rg hcx [] [some 58, some 59, some 60, some 61, some 62, some 63, some 64, some 65, some 66, some 67] [] rfl rfl rfl ?_
        simp -implicitDefEqProofs (maxSteps := 2000000) (disch := first | omega | (simp only [go_sem, List.length_append, List.length_drop, List.length_take, hsL, hsK, hsF] <;> omega) | decide) only [go_sem, ↓reduceIte, Nat.reduceEqDiff, reduceCtorEq, Nat.reduceLT, Nat.reduceBEq, Nat.reduceAdd, Nat.reduceSub, Nat.reduceMul, Nat.reduceMod, hsL, hsK, hsF, b0, e1, e2, h39m]
        refine hK22 _ ?_
        clear hK22 K22
        refine Tr.kp [6, 8, 10, 11, 12, 14, 15, 16, 41, 42, 67] ?_
        simp only [pk_cons, pk_nil, ↓A_cons, ↓reduceIte, Nat.reduceEqDiff]
        refine Tr.condG fun KT KF hT hF => ?_
        simp only [ev_tmp, ev_const, ↓A_cons, ↓reduceIte, Nat.reduceEqDiff, reduceCtorEq, condG_bool, GB_true, GB_false, decide_eq_true_eq]
        refine hF ?_
        clear hT hF KT KF
        refine Tr.exit ?_
        refine hK19 _ ?_
        clear hK21 K21 hK19 K19
        refine Tr.kp [6, 8, 10, 11, 12, 14, 15, 41, 42] ?_
        simp only [pk_cons, pk_nil, ↓A_cons, ↓reduceIte, Nat.reduceEqDiff]
        have hm0 : ¬ m = 0 := fun h => by subst h; have hx := freR_1 (l := l) (b := b) (w := w) k; rw [show (k : Int) + 1 = ((k + 1 + 0 : Nat) : Int) by omega] at hx; omega
        have hm0f : (m = 0) = False := eq_false hm0
        have hfit := fit_of (l := l) (b := b) (w := w) (k := k) (c := m) (by omega) hfr (by first | (left; omega) | (right; omega))
        have hnx : nxt l b w k = (bst l b w (dp l b w c).1 (dp l b w c).2 k m).2.2 := by unfold nxt bs; rw [show l.length - 1 - k = c by omega, show l.length - 1 - c = k by omega, hfit]
        refine Tr.rgD hcx hMO [] _ [] rfl rfl rfl rfl ?_
        simp -implicitDefEqProofs (maxSteps := 2000000) (disch := first | omega | (simp only [go_sem, List.length_append, List.length_drop, List.length_take, hsL, hsK, hsF] <;> omega) | decide) only [go_sem, ↓reduceIte, Nat.reduceEqDiff, reduceCtorEq, Nat.reduceLT, Nat.reduceBEq, Nat.reduceAdd, Nat.reduceSub, Nat.reduceMul, Nat.reduceMod, hsL, hsK, hsF, b0, e1, e2, hm0f]
        with_reducible refine And.intro ?_ ?_
        · exact rfl
        refine hK12 _ ?_
        clear hK12 K12
        refine Tr.kp [6, 8, 10, 11, 12, 41, 42] ?_
        simp only [pk_cons, pk_nil, ↓A_cons, ↓reduceIte, Nat.reduceEqDiff]
        refine Tr.rg hcx [] _ [] rfl rfl rfl ?_
        simp -implicitDefEqProofs (maxSteps := 2000000) (disch := first | omega | (simp only [go_sem, List.length_append, List.length_drop, List.length_take, hsL, hsK, hsF] <;> omega) | decide) only [go_sem, ↓reduceIte, Nat.reduceEqDiff, reduceCtorEq, Nat.reduceLT, Nat.reduceBEq, Nat.reduceAdd, Nat.reduceSub, Nat.reduceMul, Nat.reduceMod, hsL, hsK, hsF, b0, e1, e2]
        refine ⟨c + 1, ⟨⟨by omega, fun q h1 h2 => (if hq : q = k then hq ▸ (by omega) else hA q (by omega) h2)⟩, by first | omega | (simp only []; omega)⟩, ?_, by dsimp only; rw [← FL_S (by omega) (Nat.le_refl _), hk, hnx]; simp only [dp, hk, hfit, hm0f, if_false]⟩
        (simp only [Le_nil, Le_cons, ↓A_cons, ↓reduceIte, Nat.reduceEqDiff, reduceCtorEq, CLe_refl, CLe_top, CLe_full, CLe_nil, CLe_own, and_true, true_and]; all_goals (repeat' first | exact CLe.refl _ | exact True.intro | (refine CLe_sln ?_; first | with_reducible rfl | (simp only [List.take_zero]; done) | (rfl; done)) | exact CLe_nI (by omega) | exact CLe_int (by omega) | exact CLe_inI (by omega) | exact CLe_nIi (by omega) | with_reducible apply And.intro))
      ·
       have e1o := e1
       replace e1 := eq_false e1
       have h39m := True.intro
       refine Tr.rg hcx [] [some 58, some 59, some 60, some 61, some 62, some 63, some 64, some 65, some 66, some 67] [] rfl rfl rfl ?_
       simp -implicitDefEqProofs (maxSteps := 2000000) (disch := first | omega | (simp only [go_sem, List.length_append, List.length_drop, List.length_take, hsL, hsK, hsF] <;> omega) | decide) only [go_sem, ↓reduceIte, Nat.reduceEqDiff, reduceCtorEq, Nat.reduceLT, Nat.reduceBEq, Nat.reduceAdd, Nat.reduceSub, Nat.reduceMul, Nat.reduceMod, hsL, hsK, hsF, b0, e1, h39m]
       refine hK22 _ ?_
       clear hK22 K22
       refine Tr.kp [6, 8, 10, 11, 12, 14, 15, 16, 41, 42, 67] ?_
       simp only [pk_cons, pk_nil, ↓A_cons, ↓reduceIte, Nat.reduceEqDiff]
       refine Tr.condG fun KT KF hT hF => ?_
       simp only [ev_tmp, ev_const, ↓A_cons, ↓reduceIte, Nat.reduceEqDiff, reduceCtorEq, condG_bool, GB_true, GB_false, decide_eq_true_eq]
       refine hF ?_
       clear hT hF KT KF
       refine Tr.exit ?_
       refine hK19 _ ?_
       clear hK21 K21 hK19 K19
       refine Tr.kp [6, 8, 10, 11, 12, 14, 15, 41, 42] ?_
       simp only [pk_cons, pk_nil, ↓A_cons, ↓reduceIte, Nat.reduceEqDiff]
       have hm0 : ¬ m = 0 := fun h => by subst h; have hx := freR_1 (l := l) (b := b) (w := w) k; rw [show (k : Int) + 1 = ((k + 1 + 0 : Nat) : Int) by omega] at hx; omega
       have hm0f : (m = 0) = False := eq_false hm0
       have hfit := fit_of (l := l) (b := b) (w := w) (k := k) (c := m) (by omega) hfr (by first | (left; omega) | (right; omega))
       have hnx : nxt l b w k = (bst l b w (dp l b w c).1 (dp l b w c).2 k m).2.2 := by unfold nxt bs; rw [show l.length - 1 - k = c by omega, show l.length - 1 - c = k by omega, hfit]
       refine Tr.rgD hcx hMO [] _ [] rfl rfl rfl rfl ?_
       simp -implicitDefEqProofs (maxSteps := 2000000) (disch := first | omega | (simp only [go_sem, List.length_append, List.length_drop, List.length_take, hsL, hsK, hsF] <;> omega) | decide) only [go_sem, ↓reduceIte, Nat.reduceEqDiff, reduceCtorEq, Nat.reduceLT, Nat.reduceBEq, Nat.reduceAdd, Nat.reduceSub, Nat.reduceMul, Nat.reduceMod, hsL, hsK, hsF, b0, e1, hm0f]
       with_reducible refine And.intro ?_ ?_
       · exact rfl
       refine hK12 _ ?_
       clear hK12 K12
       refine Tr.kp [6, 8, 10, 11, 12, 41, 42] ?_
       simp only [pk_cons, pk_nil, ↓A_cons, ↓reduceIte, Nat.reduceEqDiff]
       refine Tr.rg hcx [] _ [] rfl rfl rfl ?_
       simp -implicitDefEqProofs (maxSteps := 2000000) (disch := first | omega | (simp only [go_sem, List.length_append, List.length_drop, List.length_take, hsL, hsK, hsF] <;> omega) | decide) only [go_sem, ↓reduceIte, Nat.reduceEqDiff, reduceCtorEq, Nat.reduceLT, Nat.reduceBEq, Nat.reduceAdd, Nat.reduceSub, Nat.reduceMul, Nat.reduceMod, hsL, hsK, hsF, b0, e1]
       refine ⟨c + 1, ⟨⟨by omega, fun q h1 h2 => (if hq : q = k then hq ▸ (by omega) else hA q (by omega) h2)⟩, by first | omega | (simp only []; omega)⟩, ?_, by dsimp only; rw [← FL_S (by omega) (Nat.le_refl _), hk, hnx]; simp only [dp, hk, hfit, hm0f, if_false]⟩
       (simp only [Le_nil, Le_cons, ↓A_cons, ↓reduceIte, Nat.reduceEqDiff, reduceCtorEq, CLe_refl, CLe_top, CLe_full, CLe_nil, CLe_own, and_true, true_and]; all_goals (repeat' first | exact CLe.refl _ | exact True.intro | (refine CLe_sln ?_; first | with_reducible rfl | (simp only [List.take_zero]; done) | (rfl; done)) | exact CLe_nI (by omega) | exact CLe_int (by omega) | exact CLe_inI (by omega) | exact CLe_nIi (by omega) | with_reducible apply And.intro))
   ·
    clear hT hF KT KF
    obtain rfl : c = l.length := by omega
    have hw0 : ∀ i, i < l.length → gt l i ≤ w := fun i hi => hA i (by omega) hi
    have hnin := fun k (hk : k < l.length) => nxt_in (b := b) (w := w) hk ⟨fit_pos hk (hw0 k hk), fit_le l b w k⟩
    have hsF := FL_len l b w l.length l.length
    refine Tr.exit ?_
    refine hK8 _ ?_
    clear hK11 K11 hK8 K8
    refine Tr.kp [6, 10, 11, 12] ?_
    simp only [pk_cons, pk_nil, ↓A_cons, ↓reduceIte, Nat.reduceEqDiff]
    refine Tr.seqK fun K26 hK26 => ?_
    refine Tr.seqK fun K27 hK27 => ?_
    refine Tr.bxc 4 0 (sl iC (.own 1) []) [.val (.slice none 0 0), .sv 2 0 (l.length + 1), .sv 3 0 (l.length + 1)] (by simp only [go_sem]) rfl (CLe_sln rfl) rfl ?_
    simp only [List.set_cons_succ, List.set_cons_zero]
    refine Tr.rg hcx [] _ [] rfl rfl rfl ?_
    simp -implicitDefEqProofs (maxSteps := 2000000) (disch := first | omega | (simp only [go_sem, List.length_append, List.length_drop, List.length_take, hsL, hsK, hsF] <;> omega) | decide) only [go_sem, ↓reduceIte, Nat.reduceEqDiff, reduceCtorEq, Nat.reduceLT, Nat.reduceBEq, Nat.reduceAdd, Nat.reduceSub, Nat.reduceMul, Nat.reduceMod, hsL, hsK, hsF, b0]
    refine hK27 _ ?_
    clear hK27 K27
    refine Tr.kp [6, 10, 11, 12, 18] ?_
    simp only [pk_cons, pk_nil, ↓A_cons, ↓reduceIte, Nat.reduceEqDiff]
    refine Tr.blk ?_
    refine Tr.loopI (α := (Nat × List Int)) (fun a => [(6, ?v6_72), (10, ?v10_72), (11, ?v11_72), (12, ?v12_72), (18, .val (nI a.1))]) (fun a => [some [.val (.slice none 0 0), .val (.slice none 0 0), .val (.slice none 0 0)], some [sl iC .no (sumsL l b l.length), .val (.int .i64 b), .val (.int .i64 w)], some (cl iC (dp l b w l.length).1), some (cl iC (dp l b w l.length).2), some [sl iC (.own 1) a.2, .sv 2 0 (l.length + 1), .sv 3 0 (l.length + 1)], some (cl iC (FL l b w l.length l.length))]) (fun a => a.1 ≤ l.length ∧ a.2.length ≤ a.1 ∧ a.2 ++ chn l b w (l.length - a.1) a.1 = endF l b w) (fun a => l.length - a.1) ((0, [])) ⟨Nat.zero_le _, Nat.le_refl _, rfl⟩ ?le_72 ?hh_72 ?bd_72
    case hh_72 => exact rfl
    case le_72 => (simp only [Le_nil, Le_cons, ↓A_cons, ↓reduceIte, Nat.reduceEqDiff, reduceCtorEq, CLe_refl, CLe_top, CLe_full, CLe_nil, CLe_own, and_true, true_and]; all_goals (repeat' first | exact CLe.refl _ | exact True.intro | (refine CLe_sln ?_; first | with_reducible rfl | (simp only [List.take_zero]; done) | (rfl; done)) | exact CLe_nI (by omega) | exact CLe_int (by omega) | exact CLe_inI (by omega) | exact CLe_nIi (by omega) | with_reducible apply And.intro))
    case bd_72 =>
     rintro ⟨k, out⟩ ⟨hk, ho, hr⟩
     dsimp only at *
     refine Tr.seqK fun K28 hK28 => ?_
     refine Tr.seqK fun K29 hK29 => ?_
     refine Tr.rg hcx [] _ [] rfl rfl rfl ?_
     simp -implicitDefEqProofs (maxSteps := 2000000) (disch := first | omega | (simp only [go_sem, List.length_append, List.length_drop, List.length_take, hsL, hsK, hsF] <;> omega) | decide) only [go_sem, ↓reduceIte, Nat.reduceEqDiff, reduceCtorEq, Nat.reduceLT, Nat.reduceBEq, Nat.reduceAdd, Nat.reduceSub, Nat.reduceMul, Nat.reduceMod, hsL, hsK, hsF, b0]
     refine hK29 _ ?_
     clear hK29 K29
     refine Tr.kp [6, 10, 11, 12, 18, 116] ?_
     simp only [pk_cons, pk_nil, ↓A_cons, ↓reduceIte, Nat.reduceEqDiff]
     refine Tr.condG fun KT KF hT hF => ?_
     simp only [ev_tmp, ev_const, ↓A_cons, ↓reduceIte, Nat.reduceEqDiff, reduceCtorEq, condG_bool, GB_true, GB_false, decide_eq_true_eq]
     refine GB.dec (fun hc116 => hT ?_) (fun hc116 => hF ?_)
     ·
      clear hT hF KT KF
      have hFk : gt (FL l b w l.length l.length) k = ((nxt l b w k : Nat) : Int) := by rw [FL_gt _ _ _ _ _ _ hc116, if_pos ⟨by omega, hc116⟩]
      refine Tr.skip ?_
      refine hK28 _ ?_
      clear hK28 K28
      refine Tr.kp [6, 10, 11, 12, 18] ?_
      simp only [pk_cons, pk_nil, ↓A_cons, ↓reduceIte, Nat.reduceEqDiff]
      refine Tr.seqK fun K30 hK30 => ?_
      refine Tr.blk ?_
      refine Tr.rgD hcx hMO [122] _ [] rfl rfl rfl rfl ?_
      simp -implicitDefEqProofs (maxSteps := 2000000) (disch := first | omega | (simp only [go_sem, List.length_append, List.length_drop, List.length_take, hsL, hsK, hsF] <;> omega) | decide) only [go_sem, ↓reduceIte, Nat.reduceEqDiff, reduceCtorEq, Nat.reduceLT, Nat.reduceBEq, Nat.reduceAdd, Nat.reduceSub, Nat.reduceMul, Nat.reduceMod, hsL, hsK, hsF, b0, hFk]
      with_reducible refine And.intro ?_ ?_
      · exact rfl
      refine hK30 _ ?_
      clear hK30 K30
      refine Tr.kp [6, 10, 11, 12, 18] ?_
      simp only [pk_cons, pk_nil, ↓A_cons, ↓reduceIte, Nat.reduceEqDiff]
      refine Tr.rg hcx [1000120] _ [] rfl rfl rfl ?_
      simp -implicitDefEqProofs (maxSteps := 2000000) (disch := first | omega | (simp only [go_sem, List.length_append, List.length_drop, List.length_take, hsL, hsK, hsF] <;> omega) | decide) only [go_sem, ↓reduceIte, Nat.reduceEqDiff, reduceCtorEq, Nat.reduceLT, Nat.reduceBEq, Nat.reduceAdd, Nat.reduceSub, Nat.reduceMul, Nat.reduceMod, hsL, hsK, hsF, b0, hFk]
      refine ⟨(nxt l b w k, out ++ [((nxt l b w k : Nat) : Int)]), ⟨⟨(hnin k hc116).2, by have h1 := (hnin k hc116).1; simp only [List.length_append, List.length_singleton] at *; omega, by rw [← hr, chn_S (fun k hk => (hnin k hk).1) hc116]; simp⟩, by have h1 := hnin k hc116; simp only []; omega⟩, ?_, rfl⟩
      (simp only [Le_nil, Le_cons, ↓A_cons, ↓reduceIte, Nat.reduceEqDiff, reduceCtorEq, CLe_refl, CLe_top, CLe_full, CLe_nil, CLe_own, and_true, true_and]; all_goals (repeat' first | exact CLe.refl _ | exact True.intro | (refine CLe_sln ?_; first | with_reducible rfl | (simp only [List.take_zero]; done) | (rfl; done)) | exact CLe_nI (by omega) | exact CLe_int (by omega) | exact CLe_inI (by omega) | exact CLe_nIi (by omega) | with_reducible apply And.intro))
     ·
      clear hT hF KT KF
      obtain rfl : k = l.length := by omega
      rw [chn_E l b w (Nat.lt_irrefl _), List.append_nil] at hr
      refine Tr.exit ?_
      refine hK26 _ ?_
      clear hK28 K28 hK26 K26
      refine Tr.kp [6, 11] ?_
      simp only [pk_cons, pk_nil, ↓A_cons, ↓reduceIte, Nat.reduceEqDiff]
      refine Tr.seqK fun K31 hK31 => ?_
      refine Tr.rg hcx [] _ [] rfl rfl rfl ?_
      simp -implicitDefEqProofs (maxSteps := 2000000) (disch := first | omega | (simp only [go_sem, List.length_append, List.length_drop, List.length_take, hsL, hsK, hsF] <;> omega) | decide) only [go_sem, ↓reduceIte, Nat.reduceEqDiff, reduceCtorEq, Nat.reduceLT, Nat.reduceBEq, Nat.reduceAdd, Nat.reduceSub, Nat.reduceMul, Nat.reduceMod, hsL, hsK, hsF, b0]
      refine hK31 _ ?_
      clear hK31 K31
      refine Tr.kp [6, 7] ?_
      simp only [pk_cons, pk_nil, ↓A_cons, ↓reduceIte, Nat.reduceEqDiff]
      first | refine Tr.cert0 ?_ | (refine Tr.certF hcx (by rw [(dp_len l b w l.length).1]) (by rw [(dp_len l b w l.length).2]) (Nat.succ_pos _) fun _ => ?_)
      refine Tr.ret ?_
      simp -implicitDefEqProofs (disch := first | omega | (simp only [go_sem, List.length_append, List.length_drop, List.length_take, hsL, hsK, hsF] <;> omega) | decide) only [go_sem, ↓reduceIte, Nat.reduceEqDiff, reduceCtorEq]
      all_goals (first | (rw [fill_e b0]; try rfl) | (rw [fill_w b0 hwide]; try rfl) | (rw [fill_0 b0 hw0, ← hr]; try rfl))
 ·
  have h37' := h37e l b w hl hb hw b0
  refine Tr.rg hcx [1000025] _ [none] rfl rfl rfl ?_
  simp -implicitDefEqProofs (maxSteps := 2000000) (disch := first | omega | (simp only [go_sem, List.length_append, List.length_drop, List.length_take, hsL, hsK, hsF] <;> omega) | decide) only [go_sem, ↓reduceIte, Nat.reduceEqDiff, reduceCtorEq, Nat.reduceLT, Nat.reduceBEq, Nat.reduceAdd, Nat.reduceSub, Nat.reduceMul, Nat.reduceMod, hsL, hsK, hsF, b0, h37']
  refine hK2 _ ?_
  clear hK2 K2
  refine Tr.kp [6, 8, 9] ?_
  simp only [pk_cons, pk_nil, ↓A_cons, ↓reduceIte, Nat.reduceEqDiff]
  refine Tr.seqK fun K32 hK32 => ?_
  refine Tr.seqK fun K33 hK33 => ?_
  refine Tr.rg hcx [] _ [] rfl rfl rfl ?_
  simp -implicitDefEqProofs (maxSteps := 2000000) (disch := first | omega | (simp only [go_sem, List.length_append, List.length_drop, List.length_take, hsL, hsK, hsF] <;> omega) | decide) only [go_sem, ↓reduceIte, Nat.reduceEqDiff, reduceCtorEq, Nat.reduceLT, Nat.reduceBEq, Nat.reduceAdd, Nat.reduceSub, Nat.reduceMul, Nat.reduceMod, hsL, hsK, hsF, b0]
  refine hK33 _ ?_
  clear hK33 K33
  refine Tr.kp [6, 8, 9, 27] ?_
  simp only [pk_cons, pk_nil, ↓A_cons, ↓reduceIte, Nat.reduceEqDiff]
  refine Tr.condG fun KT KF hT hF => ?_
  simp only [ev_tmp, ev_const, ↓A_cons, ↓reduceIte, Nat.reduceEqDiff, reduceCtorEq, condG_bool, GB_true, GB_false, decide_eq_true_eq]
  refine hT ?_
  clear hT hF KT KF
  refine Tr.seqK fun K34 hK34 => ?_
  refine Tr.rg hcx [1000029] _ [] rfl rfl rfl ?_
  simp -implicitDefEqProofs (maxSteps := 2000000) (disch := first | omega | (simp only [go_sem, List.length_append, List.length_drop, List.length_take, hsL, hsK, hsF] <;> omega) | decide) only [go_sem, ↓reduceIte, Nat.reduceEqDiff, reduceCtorEq, Nat.reduceLT, Nat.reduceBEq, Nat.reduceAdd, Nat.reduceSub, Nat.reduceMul, Nat.reduceMod, hsL, hsK, hsF, b0]
  refine hK34 _ ?_
  clear hK34 K34
  refine Tr.kp [6, 7] ?_
  simp only [pk_cons, pk_nil, ↓A_cons, ↓reduceIte, Nat.reduceEqDiff]
  first | refine Tr.cert0 ?_ | (refine Tr.certF hcx (by rw [(dp_len l b w l.length).1]) (by rw [(dp_len l b w l.length).2]) (Nat.succ_pos _) fun _ => ?_)
  refine Tr.ret ?_
  simp -implicitDefEqProofs (disch := first | omega | (simp only [go_sem, List.length_append, List.length_drop, List.length_take, hsL, hsK, hsF] <;> omega) | decide) only [go_sem, ↓reduceIte, Nat.reduceEqDiff, reduceCtorEq]
  all_goals (first | (rw [fill_e b0]; try rfl) | (rw [fill_w b0 hwide]; try rfl) | (rw [fill_0 b0 hw0, ← hr]; try rfl))
end Go.Sx
namespace Go.Sx
open Go.RowKit Go.Proofs
end Go.Sx
namespace Go.Sx
end Go.Sx
