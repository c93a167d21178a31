/-
  Package breaks: the program's division is the best one. And what follows.
-/
import Derived.Test.YtljjjkmiegeocaaPap
import Derived.Test.YtljjjkmiegeocaaPaj
set_option linter.unusedSimpArgs false
set_option linter.unusedVariables false
namespace Go.Sx
section
variable {l : List Int} {b w : Int}
theorem bst_congr {L K L' K' : List Int} {k : Nat} : ∀ m, (∀ j, k < j → j ≤ k + m → gt L j = gt L' j ∧ gt K j = gt K' j) → bst l b w L K k m = bst l b w L' K' k m
  | 0, _ => rfl
  | m + 1, h => by
    have ih := bst_congr m fun j h1 h2 => h j h1 (by omega)
    obtain ⟨e1, e2⟩ := h (k + 1 + m) (by omega) (by omega)
    unfold bst
    rw [ih, e1, e2]
theorem bst_min (L K : List Int) (k : Nat) : ∀ m, 0 < m → (∀ j, k < j → j ≤ k + m → ¬ lx (gt L j + 1) (gt K j + priR l b w (k : Int) (j : Int)) (bst l b w L K k m).1 (bst l b w L K k m).2.1) ∧
    (∀ j, k < j → j < (bst l b w L K k m).2.2 → lx (bst l b w L K k m).1 (bst l b w L K k m).2.1 (gt L j + 1) (gt K j + priR l b w (k : Int) (j : Int))) ∧
    (k < (bst l b w L K k m).2.2 ∧ (bst l b w L K k m).2.2 ≤ k + m) ∧ (bst l b w L K k m).1 = gt L (bst l b w L K k m).2.2 + 1 ∧ (bst l b w L K k m).2.1 = gt K (bst l b w L K k m).2.2 + priR l b w (k : Int) ((bst l b w L K k m).2.2 : Nat)
  | m + 1, _ => by
    by_cases h : m = 0 ∨ befI (gt L (k + 1 + m) + 1) (gt K (k + 1 + m) + priR l b w (k : Int) ((k + 1 + m : Nat) : Int)) (bst l b w L K k m).1 (bst l b w L K k m).2.1 = true
    · rw [bst_T h]
      refine ⟨fun j h1 h2 => ?_, fun j h1 h2 => ?_, ⟨by show k < k + 1 + m; omega, by show k + 1 + m ≤ k + (m + 1); omega⟩, rfl, rfl⟩
      · rcases Nat.lt_or_eq_of_le h2 with h3 | h3
        · rcases h with rfl | h
          · omega
          · have ih := (bst_min L K k m (by omega)).1 j h1 (by omega)
            rw [befI_T] at h
            unfold lx at *; simp only []; omega
        · rw [show j = k + 1 + m by omega]; unfold lx; simp only []; omega
      · have h2' : j < k + 1 + m := h2
        rcases h with rfl | h
        · omega
        · have ih := (bst_min L K k m (by omega)).1 j h1 (by omega)
          rw [befI_T] at h
          unfold lx at *; simp only []; omega
    · have h0 : ¬ m = 0 := fun h1 => h (.inl h1)
      have h1 : befI (gt L (k + 1 + m) + 1) (gt K (k + 1 + m) + priR l b w (k : Int) ((k + 1 + m : Nat) : Int)) (bst l b w L K k m).1 (bst l b w L K k m).2.1 = false := by
        cases hb : befI (gt L (k + 1 + m) + 1) (gt K (k + 1 + m) + priR l b w (k : Int) ((k + 1 + m : Nat) : Int)) (bst l b w L K k m).1 (bst l b w L K k m).2.1 with
        | false => rfl
        | true => exact absurd (.inr hb) h
      rw [bst_F h0 h1]
      obtain ⟨i1, i2, i3, i4, i5⟩ := bst_min L K k m (by omega)
      refine ⟨fun j g1 g2 => ?_, i2, ⟨i3.1, by omega⟩, i4, i5⟩
      rcases Nat.lt_or_eq_of_le g2 with g3 | g3
      · exact i1 j g1 (by omega)
      · rw [befI_F] at h1
        rw [show j = k + 1 + m by omega]; exact h1
/-- What has been found stays. -/
theorem dp_stay : ∀ c', c' ≤ l.length → ∀ c, c ≤ c' → ∀ j, l.length - c ≤ j → gt (dp l b w c').1 j = gt (dp l b w c).1 j ∧ gt (dp l b w c').2 j = gt (dp l b w c).2 j
  | 0, _, c, hc, j, _ => by
    have : c = 0 := by omega
    subst this; exact ⟨rfl, rfl⟩
  | c' + 1, hc', c, hc, j, hj => by
    rcases Nat.lt_or_eq_of_le hc with h | h
    · have ih := dp_stay c' (by omega) c (by omega) j hj
      have hl := dp_len l b w c'
      simp only [dp]
      rw [gt_set _ _ _ _ (by omega), gt_set _ _ _ _ (by omega), if_neg (by omega), if_neg (by omega)]
      exact ih
    · subst h; exact ⟨rfl, rfl⟩
def dL (l : List Int) (b w : Int) (k : Nat) : Int := gt (dp l b w l.length).1 k
def dK (l : List Int) (b w : Int) (k : Nat) : Int := gt (dp l b w l.length).2 k
theorem dp_at {k : Nat} (hk : k < l.length) : dL l b w k = (bst l b w (dp l b w l.length).1 (dp l b w l.length).2 k (fitS l b w k)).1 ∧ dK l b w k = (bst l b w (dp l b w l.length).1 (dp l b w l.length).2 k (fitS l b w k)).2.1 ∧
    nxt l b w k = (bst l b w (dp l b w l.length).1 (dp l b w l.length).2 k (fitS l b w k)).2.2 := by
  have hfit := fit_le l b w k
  have e : bst l b w (dp l b w (l.length - 1 - k)).1 (dp l b w (l.length - 1 - k)).2 k (fitS l b w k) = bst l b w (dp l b w l.length).1 (dp l b w l.length).2 k (fitS l b w k) :=
    bst_congr _ fun j h1 h2 => by
      have := dp_stay (l := l) (b := b) (w := w) l.length (Nat.le_refl _) (l.length - 1 - k) (by omega) j (by omega)
      exact ⟨this.1.symm, this.2.symm⟩
  have hs := dp_stay (l := l) (b := b) (w := w) l.length (Nat.le_refl _) (l.length - 1 - k + 1) (by omega) k (by omega)
  have hl := dp_len l b w (l.length - 1 - k)
  have ek : l.length - 1 - (l.length - 1 - k) = k := by omega
  refine ⟨?_, ?_, ?_⟩
  · show gt _ k = _
    rw [hs.1]
    simp only [dp]
    rw [ek, gt_set _ _ _ _ (by omega), if_pos rfl, e]
  · show gt _ k = _
    rw [hs.2]
    simp only [dp]
    rw [ek, gt_set _ _ _ _ (by omega), if_pos rfl, e]
  · unfold nxt bs
    rw [ek, e]
/-- The longer the line, the less is free. -/
theorem freR_mono (hF : Fine l b w) {i i' j' j : Nat} (h1 : i ≤ i') (h2 : i' < j') (h3 : j' ≤ j) (h4 : j ≤ l.length) : freR l b w (i : Int) (j : Int) ≤ freR l b w (i' : Int) (j' : Int) := by
  unfold freR
  rw [if_neg (by omega), if_neg (by omega)]
  have a1 := sumI_m hF i i' h1 (by omega)
  have a2 := sumI_m hF j' j h3 h4
  simp only [Int.toNat_natCast]
  omega
def prb (l : List Int) (b w : Int) : Prb := ⟨l.length, fun i j => 0 ≤ freR l b w (i : Int) (j : Int), fun i j => priR l b w (i : Int) (j : Int)⟩
theorem fit_iff (hF : Fine l b w) {k j : Nat} (hkj : k < j) (hj : j ≤ l.length) : 0 ≤ freR l b w (k : Int) (j : Int) ↔ j ≤ k + fitS l b w k := by
  constructor
  · intro h
    rcases Nat.lt_or_ge (k + fitS l b w k) j with hlt | hge
    · exfalso
      have hc := fit_le l b w k
      obtain ⟨c, hc'⟩ : ∃ c, fitS l b w k = c := ⟨_, rfl⟩
      -- up to j everything fits
      have : fitS l b w k = fitS l b w k ∧ j - k ≤ fitS l b w k := by
        refine ⟨rfl, ?_⟩
        unfold fitS
        obtain ⟨d, hd⟩ : ∃ d, l.length - k = (j - k) + d := ⟨l.length - j, by omega⟩
        rw [hd, List.range_add, List.takeWhile_append_of_pos (fun a ha => ?_)]
        · rw [List.length_append, List.length_range]; omega
        · rw [List.mem_range] at ha
          refine decide_eq_true ?_
          have := freR_mono hF (i := k) (i' := k) (j' := k + 1 + a) (j := j) (Nat.le_refl _) (by omega) (by omega) hj
          omega
      omega
    · exact hge
  · intro h
    obtain ⟨m, rfl⟩ : ∃ m, j = k + 1 + m := ⟨j - k - 1, by omega⟩
    have hm : m < fitS l b w k := by omega
    unfold fitS at hm
    have hmem := List.all_eq_true.1 List.all_takeWhile _ (List.getElem_mem hm)
    have hge : ((List.range (l.length - k)).takeWhile fun m => decide (0 ≤ freR l b w (k : Int) ((k + 1 + m : Nat) : Int)))[m] = m := by
      have hp := List.takeWhile_prefix (l := List.range (l.length - k)) fun m => decide (0 ≤ freR l b w (k : Int) ((k + 1 + m : Nat) : Int))
      have := hp.getElem hm
      rw [this, List.getElem_range]
    rw [hge] at hmem
    exact of_decide_eq_true hmem
theorem dp_opt (hF : Fine l b w) (hw : ∀ i, i < l.length → gt l i ≤ w) : Opt (prb l b w) (dL l b w) (dK l b w) (nxt l b w) := by
  have h0 := dp_stay (l := l) (b := b) (w := w) l.length (Nat.le_refl _) 0 (Nat.zero_le _) l.length (Nat.le_refl _)
  have hz : gt (List.replicate (l.length + 1) (0 : Int)) l.length = 0 := by simp [gt, List.getD, List.getElem?_replicate]
  have key : ∀ k, k < l.length → _ := fun k hk => bst_min (l := l) (b := b) (w := w) (dp l b w l.length).1 (dp l b w l.length).2 k (fitS l b w k) (fit_pos hk (hw k hk))
  have hfl := fun k => fit_le l b w k
  refine ⟨h0.1.trans hz, h0.2.trans hz, fun k hk => ?_, fun k hk => ?_, fun k hk => ?_, fun k j h1 h2 h3 => ?_, fun k j h1 h2 h3 h4 => ?_⟩
  · obtain ⟨e1, e2, e3⟩ := dp_at (b := b) (w := w) hk
    obtain ⟨_, _, g, _⟩ := key k hk
    have := hfl k
    rw [e3]
    have hk' : k < l.length := hk
    refine ⟨g.1, by show _ ≤ l.length; omega, (fit_iff hF g.1 (by omega)).2 g.2⟩
  · obtain ⟨e1, e2, e3⟩ := dp_at (b := b) (w := w) hk
    obtain ⟨_, _, _, g, _⟩ := key k hk
    rw [e1, e3, g]; rfl
  · obtain ⟨e1, e2, e3⟩ := dp_at (b := b) (w := w) hk
    obtain ⟨_, _, _, _, g⟩ := key k hk
    rw [e2, e3, g]; rfl
  · have hj : j ≤ l.length := h2
    have hk : k < l.length := by omega
    obtain ⟨e1, e2, e3⟩ := dp_at (b := b) (w := w) hk
    obtain ⟨g, _⟩ := key k hk
    rw [e1, e2]
    exact g j h1 ((fit_iff hF h1 hj).1 h3)
  · obtain ⟨e1, e2, e3⟩ := dp_at (b := b) (w := w) h3
    obtain ⟨_, g, _⟩ := key k h3
    rw [e3] at h2
    rw [e1, e2]
    exact g j h1 h2
theorem chn_N (l : List Int) (b w : Int) : ∀ f k, chn l b w f k = chN (nxt l b w) l.length f k
  | 0, k => rfl
  | f + 1, k => by
    unfold chn chN
    split
    · rw [chn_N l b w f]
    · rfl
end
/-! What a division costs, as a sum along its ends. -/
def prevS (s : Int) (e : List Int) (i : Nat) : Int := if i = 0 then s else gt e (i - 1)
theorem prevS_cons (s x : Int) (e : List Int) (i : Nat) : prevS s (x :: e) (i + 1) = prevS x e i := by
  unfold prevS
  rw [if_neg (by omega), Nat.add_sub_cancel]
  cases i with
  | zero => rfl
  | succ i => rw [if_neg (by omega), gt_consS]; rfl
def DvS (l : List Int) (b w s : Int) (e : List Int) : Prop := (∀ i, i < e.length → prevS s e i < gt e i) ∧ prevS s e e.length = (l.length : Int) ∧ ∀ i, i < e.length → 0 ≤ freR l b w (prevS s e i) (gt e i)
theorem DvS_cons {l : List Int} {b w s x : Int} {e : List Int} : DvS l b w s (x :: e) ↔ s < x ∧ 0 ≤ freR l b w s x ∧ DvS l b w x e := by
  unfold DvS
  rw [List.length_cons, prevS_cons]
  constructor
  · rintro ⟨h1, h2, h3⟩
    refine ⟨h1 0 (by omega), h3 0 (by omega), fun i hi => ?_, h2, fun i hi => ?_⟩
    · have := h1 (i + 1) (by omega); rwa [prevS_cons, gt_consS] at this
    · have := h3 (i + 1) (by omega); rwa [prevS_cons, gt_consS] at this
  · rintro ⟨h1, h2, h3, h4, h5⟩
    refine ⟨fun i hi => ?_, h4, fun i hi => ?_⟩
    · cases i with
      | zero => exact h1
      | succ i => rw [prevS_cons, gt_consS]; exact h3 i (by omega)
    · cases i with
      | zero => exact h2
      | succ i => rw [prevS_cons, gt_consS]; exact h5 i (by omega)
theorem DvS_nil {l : List Int} {b w s : Int} : DvS l b w s [] ↔ s = (l.length : Int) := by
  unfold DvS
  constructor
  · rintro ⟨_, h, _⟩; exact h
  · intro h; exact ⟨fun i hi => absurd hi (Nat.not_lt_zero i), h, fun i hi => absurd hi (Nat.not_lt_zero i)⟩
theorem DvS_le {l : List Int} {b w : Int} : ∀ {e : List Int} {s : Int}, DvS l b w s e → s ≤ (l.length : Int)
  | [], s, h => by rw [DvS_nil] at h; omega
  | x :: e, s, h => by
    rw [DvS_cons] at h
    have := DvS_le h.2.2; omega
theorem Dv_iff {l : List Int} {b w : Int} : ∀ {e : List Int} {k : Nat}, DvS l b w (k : Int) e ↔ Dv (prb l b w) k e
  | [], k => by rw [DvS_nil]; show _ ↔ k = l.length; omega
  | x :: e, k => by
    rw [DvS_cons]
    constructor
    · rintro ⟨h1, h2, h3⟩
      obtain ⟨j, rfl⟩ : ∃ j : Nat, x = (j : Int) := ⟨x.toNat, by omega⟩
      have := DvS_le h3
      exact ⟨j, rfl, by omega, by show j ≤ l.length; omega, h2, Dv_iff.1 h3⟩
    · rintro ⟨j, rfl, h1, h2, h3, h4⟩
      exact ⟨by omega, h3, Dv_iff.2 h4⟩
end Go.Sx
namespace Go.Sx
section
variable {l : List Int} {b w : Int}
theorem endF_ok (hF : Fine l b w) (hw : ∀ i, i < l.length → gt l i ≤ w) : Dv (prb l b w) 0 (endF l b w) ∧ ((endF l b w).length : Int) = dL l b w 0 ∧ sm (prb l b w) 0 (endF l b w) = dK l b w 0 := by
  have := chN_ok (dp_opt hF hw) l.length 0 (Nat.le_refl _) (Nat.zero_le _)
  rw [show (prb l b w).n = l.length from rfl, ← chn_N] at this
  exact this
end
/-! The statement of the best. -/
/-! The rest. -/
/-! Scaled. -/
/-! A wider page. -/
end Go.Sx
namespace Go.Sx
open Go.RowKit Go.Proofs
end Go.Sx
namespace Go.Sx
end Go.Sx
namespace Go.Sx
open Go.RowKit Go.Proofs
end Go.Sx
namespace Go.Sx
open Go.RowKit Go.Proofs
/-- Tokens as cells. -/
def tC (t : Tok) : List C := [.val (nI t.a), .val (nI t.e), .val (nI t.k)]
instance : Cel tC 3 := ⟨fun _ => rfl, fun _ => rfl, by decide, fun _ _ => rfl⟩
instance : Fla tC := ⟨fun _ => rfl⟩
instance : Inj tC := ⟨fun a b h => by
  cases a; cases b
  simp only [tC, List.cons.injEq, C.val.injEq, nI_inj, and_true] at h
  obtain ⟨rfl, rfl, rfl⟩ := h; rfl⟩
theorem wrc_tokE (l : List Tok) (k m : Nat) (h : k < l.length) : wrc (cl tC l) (k * 3 + 1) [.val (nI m)] = some (cl tC (l.set k ⟨(gt l k).a, m, (gt l k).k⟩), .val undef) := by
  have hl := cl_len (f := tC) l
  have e := cl_set (f := tC) l k ⟨(gt l k).a, m, (gt l k).k⟩ h
  simp only [wrc]
  rw [if_pos (by simp only [List.length_singleton]; omega), ← e]
  congr 2
  have hq : l[k]? = some (gt l k) := by simp [gt, List.getD, List.getElem?_eq_getElem h]
  have hat := cl_at (f := tC) l k _ hq
  have hd : (cl tC l).drop (k * 3) = tC (gt l k) ++ (cl tC l).drop (k * 3 + 3) := by
    rw [← hat, ← List.drop_drop]
    exact (List.take_append_drop 3 _).symm
  unfold splice
  have hlen : (tC ⟨(gt l k).a, m, (gt l k).k⟩).length = 3 := rfl
  rw [hlen]
  have h1 : (cl tC l).take (k * 3 + 1) = (cl tC l).take (k * 3) ++ [.val (nI (gt l k).a)] := by
    rw [List.take_add, hd]; rfl
  have h2 : (cl tC l).drop (k * 3 + 1 + 1) = [.val (nI (gt l k).k)] ++ (cl tC l).drop (k * 3 + 3) := by
    rw [show k * 3 + 1 + 1 = k * 3 + 2 from rfl, ← List.drop_drop, hd]; rfl
  rw [h1, show k * 3 + 1 + [C.val (nI m)].length = k * 3 + 1 + 1 from rfl, h2]
  simp [tC]
theorem bsA_tok (u : TypeDesc) (y : Nat) (z : List Value) (a e k : Nat) (hz : z.length = 3) (h1 : z.all (·.oneCell') = true) : bsA (some ⟨u, 3, y, z⟩) 1 [(0, .agg [.val (nI a), .val (nI e), .val (nI k)])] = some (vp (sl tC .full [⟨a, e, k⟩])) := by
  unfold bsA
  simp only [hz, h1]
  rw [if_pos ⟨by decide, by decide, trivial, trivial⟩]
  have hr : (repZero z 1).length = 3 := by simp [repZero, hz]
  unfold lay
  have hc : C.cells? (.agg [.val (nI a), .val (nI e), .val (nI k)]) = some [.val (nI a), .val (nI e), .val (nI k)] := rfl
  simp only [hc]
  rw [if_pos ⟨rfl, by omega⟩]
  unfold lay
  simp only [Option.map_some, splice, Nat.zero_mul, List.take_zero, List.nil_append, Nat.zero_add]
  rw [List.drop_of_length_le (by rw [hr]; exact Nat.le_refl _), List.append_nil]
  rfl
theorem fa80_1 (b o : Nat) : fieldAddrPlan Try.prog 80 (.bp b o) 1 = some (vp (.bp b (o + 1))) := by
  unfold fieldAddrPlan; simp only [td80]; show (match td Try.prog 3 with | some de => _ | none => none) = _; rw [td3]; rfl
theorem rdc_tok0 (l : List Tok) (k : Nat) (h : k < l.length) : rdc ((cl tC l).drop (k * 3)) 0 = some (.val (nI (gt l k).a)) := by
  rw [rdc_drop]
  unfold rdc
  have e : gt l k = l[k] := by simp [gt, List.getD, List.getElem?_eq_getElem h]
  rw [show k * 3 + 0 = k * 3 + 0 from rfl, cl_getq (f := tC) l k 0 (by decide), List.getElem?_eq_getElem h, e]
  rfl
theorem rdc_tok1 (l : List Tok) (k : Nat) (h : k < l.length) : rdc ((cl tC l).drop (k * 3 + 1)) 0 = some (.val (nI (gt l k).e)) := by
  rw [rdc_drop]
  unfold rdc
  have e : gt l k = l[k] := by simp [gt, List.getD, List.getElem?_eq_getElem h]
  rw [show k * 3 + 1 + 0 = k * 3 + 1 from rfl, cl_getq (f := tC) l k 1 (by decide), List.getElem?_eq_getElem h, e]
  rfl
theorem bsA_str1 (u : TypeDesc) (y : Nat) (v : Value) (i : List UInt8) (h : v.oneCell' = true) : bsA (some ⟨u, 1, y, [v]⟩) 1 [(0, .val (str i))] = some (vp (sl sC .full [i])) := by
  rw [bsA_one u y 1 v _ h (by decide)]; rfl
theorem fk80_0 (l : List Tok) (k : Nat) (h : k < l.length) : fieldAddrPlan Try.prog 80 (.kp ((cl tC l).drop (k * 3))) 0 = some (vp (.kp ((cl tC l).drop (k * 3)))) := by
  have hl := cl_len (f := tC) l
  unfold fieldAddrPlan; simp only [td80]
  show (match td Try.prog 3 with | some de => _ | none => none) = _
  rw [td3]
  show (if 0 ≤ ((cl tC l).drop (k * 3)).length then some (Plan.pure (.kp (((cl tC l).drop (k * 3)).drop 0))) else none) = _
  rw [if_pos (by rw [List.length_drop, hl]; omega), List.drop_drop]; rfl
theorem fk80_1 (l : List Tok) (k : Nat) (h : k < l.length) : fieldAddrPlan Try.prog 80 (.kp ((cl tC l).drop (k * 3))) 1 = some (vp (.kp ((cl tC l).drop (k * 3 + 1)))) := by
  have hl := cl_len (f := tC) l
  unfold fieldAddrPlan; simp only [td80]
  show (match td Try.prog 3 with | some de => _ | none => none) = _
  rw [td3]
  show (if 1 ≤ ((cl tC l).drop (k * 3)).length then some (Plan.pure (.kp (((cl tC l).drop (k * 3)).drop 1))) else none) = _
  rw [if_pos (by rw [List.length_drop, hl]; omega), List.drop_drop]; rfl
theorem fk83_0 (l : List Tok) (k : Nat) (h : k < l.length) : fieldAddrPlan Try.prog 83 (.kp ((cl tC l).drop (k * 3))) 0 = some (vp (.kp ((cl tC l).drop (k * 3)))) := by
  have hl := cl_len (f := tC) l
  unfold fieldAddrPlan; simp only [td83]
  show (match td Try.prog 3 with | some de => _ | none => none) = _
  rw [td3]
  show (if 0 ≤ ((cl tC l).drop (k * 3)).length then some (Plan.pure (.kp (((cl tC l).drop (k * 3)).drop 0))) else none) = _
  rw [if_pos (by rw [List.length_drop, hl]; omega), List.drop_drop]; rfl
theorem fk83_1 (l : List Tok) (k : Nat) (h : k < l.length) : fieldAddrPlan Try.prog 83 (.kp ((cl tC l).drop (k * 3))) 1 = some (vp (.kp ((cl tC l).drop (k * 3 + 1)))) := by
  have hl := cl_len (f := tC) l
  unfold fieldAddrPlan; simp only [td83]
  show (match td Try.prog 3 with | some de => _ | none => none) = _
  rw [td3]
  show (if 1 ≤ ((cl tC l).drop (k * 3)).length then some (Plan.pure (.kp (((cl tC l).drop (k * 3)).drop 1))) else none) = _
  rw [if_pos (by rw [List.length_drop, hl]; omega), List.drop_drop]; rfl
attribute [go_sem] wrc_tokE bsA_tok fa80_1
attribute [go_sem high] rdc_tok0 rdc_tok1 bsA_str1 fk80_0 fk80_1 fk83_0 fk83_1
end Go.Sx
namespace Go.Sx
open Go.RowKit Go.Proofs
theorem gt_drop {α : Type} [Inhabited α] (l : List α) (n i : Nat) : gt (l.drop n) i = gt l (n + i) := by
  simp [gt, List.getD]
theorem gt_memT {α : Type} [Inhabited α] {l : List α} {i : Nat} (h : i < l.length) : gt l i ∈ l := by
  have e : gt l i = l[i] := by simp [gt, List.getD, List.getElem?_eq_getElem h]
  rw [e]; exact List.getElem_mem h
theorem drop_cons {α : Type} [Inhabited α] {s : List α} {p : Nat} (h : p < s.length) : s.drop p = gt s p :: s.drop (p + 1) := by
  have e : gt s p = s[p] := by simp [gt, List.getD, List.getElem?_eq_getElem h]
  rw [e]; exact List.drop_eq_getElem_cons h
theorem rnL_get (k : Nat) : ∀ (l : List UInt8) (i : Nat), i < rnL k l → kd (gt l i) = k ∧ k < 2
  | [], i, h => by simp [rnL] at h
  | c :: r, i, h => by
    unfold rnL at h
    split at h
    · rename_i hc
      cases i with
      | zero => rw [gt_cons0]; exact ⟨hc.2, hc.1⟩
      | succ i => rw [gt_consS]; exact rnL_get k r i (by omega)
    · omega
theorem rnL_end (k : Nat) (hk : k < 2) : ∀ (l : List UInt8), rnL k l < l.length → kd (gt l (rnL k l)) ≠ k
  | [], h => by simp at h
  | c :: r, h => by
    by_cases hc : k < 2 ∧ kd c = k
    · have e : rnL k (c :: r) = rnL k r + 1 := if_pos hc
      rw [e] at h ⊢
      rw [gt_consS]
      exact rnL_end k hk r (by simpa using h)
    · have e : rnL k (c :: r) = 0 := if_neg hc
      rw [e, gt_cons0]
      exact fun h2 => hc ⟨hk, h2⟩
/-- Tokens cover a text from a place on. -/
def Cov (s : List UInt8) : Nat → Option Nat → List Tok → Prop
  | at', _, [] => ∀ j, at' ≤ j → j < s.length → gt s j = 32
  | at', pk, t :: r => (at' ≤ t.a ∧ t.a < t.e ∧ t.e ≤ s.length ∧ t.k ≤ 3) ∧ (∀ j, at' ≤ j → j < t.a → gt s j = 32) ∧ (∀ j, t.a ≤ j → j < t.e → gt s j ≠ 32 ∧ kd (gt s j) = t.k) ∧ (1 < t.k → t.e = t.a + 1) ∧ (t.k ≤ 1 → pk = some t.k → at' < t.a) ∧ Cov s t.e (some t.k) r
theorem cov_spl (s : List UInt8) : ∀ (m p : Nat) (at' : Nat) (pk : Option Nat), s.length - p ≤ m → at' ≤ p → p ≤ s.length → (∀ j, at' ≤ j → j < p → gt s j = 32) →
    (at' = p → ∀ k, pk = some k → k < 2 → p < s.length → kd (gt s p) ≠ k) → Cov s at' pk (spl p none (s.drop p)) := by
  intro m
  induction m with
  | zero =>
    intro p at' pk h1 h2 h3 h4 h5
    have hp : p = s.length := by omega
    subst hp
    rw [List.drop_length]
    exact fun j hj1 hj2 => h4 j hj1 hj2
  | succ m ih =>
    intro p at' pk h1 h2 h3 h4 h5
    by_cases hp : p < s.length
    · rw [drop_cons hp]
      by_cases hc : gt s p = 32
      · rw [hc, spl_blank]
        refine ih (p + 1) at' pk (by omega) (by omega) (by omega) (fun j hj1 hj2 => ?_) (fun e => by omega)
        by_cases hj : j < p
        · exact h4 j hj1 hj
        · have : j = p := by omega
          rw [this]; exact hc
      · rw [spl_tok p _ _ hc]
        have hr := rnL_le (kd (gt s p)) (s.drop (p + 1))
        rw [List.length_drop] at hr
        have hkle := kd_le (gt s p)
        rw [List.drop_drop]
        have hall : ∀ j, p ≤ j → j < p + 1 + rnL (kd (gt s p)) (s.drop (p + 1)) → gt s j ≠ 32 ∧ kd (gt s j) = kd (gt s p) := fun j hj1 hj2 => by
          by_cases hj : j = p
          · subst hj; exact ⟨hc, rfl⟩
          · have := rnL_get (kd (gt s p)) (s.drop (p + 1)) (j - (p + 1)) (by omega)
            rw [gt_drop, show p + 1 + (j - (p + 1)) = j by omega] at this
            refine ⟨fun h => ?_, this.1⟩
            rw [h, kd_blank] at this; omega
        refine ⟨⟨h2, by simp only []; omega, by simp only []; omega, hkle⟩, h4, hall, fun hk => ?_, fun hk hp' => ?_, ?_⟩
        · have : rnL (kd (gt s p)) (s.drop (p + 1)) = 0 := by
            rcases Nat.eq_zero_or_pos (rnL (kd (gt s p)) (s.drop (p + 1))) with h | h
            · exact h
            · have := (rnL_get _ _ 0 h).2
              simp only [] at hk; omega
          simp only []; omega
        · simp only [] at hk hp' ⊢
          rcases Nat.lt_or_eq_of_le h2 with h | h
          · exact h
          · exact absurd rfl (h5 h _ hp' (by omega) hp)
        · have e : s.drop (p + 1 + rnL (kd (gt s p)) (s.drop (p + 1))) = s.drop (p + 1 + rnL (kd (gt s p)) (s.drop (p + 1))) := rfl
          refine ih _ _ _ (by omega) (Nat.le_refl _) (by omega) (fun j a b => absurd (Nat.lt_of_le_of_lt a b) (Nat.lt_irrefl _)) (fun _ k hk hk2 hl => ?_)
          cases hk
          have := rnL_end (kd (gt s p)) hk2 (s.drop (p + 1)) (by rw [List.length_drop]; omega)
          rw [gt_drop] at this
          exact this
    · have hp' : p = s.length := by omega
      subst hp'
      rw [List.drop_length]
      exact fun j hj1 hj2 => h4 j hj1 hj2
theorem toks_cov (s : List UInt8) : Cov s 0 none (toks s) := by
  have := cov_spl s s.length 0 0 none (by omega) (Nat.le_refl _) (Nat.zero_le _) (fun j a b => by omega) (fun _ k hk => by cases hk)
  rwa [List.drop_zero] at this
/-- Where the token before ends. -/
def preE (at' : Nat) (l : List Tok) (i : Nat) : Nat := if i = 0 then at' else (gt l (i - 1)).e
theorem Cov.get {s : List UInt8} : ∀ {l : List Tok} {at' : Nat} {pk : Option Nat}, Cov s at' pk l → ∀ i, i < l.length →
    (preE at' l i ≤ (gt l i).a ∧ (gt l i).a < (gt l i).e ∧ (gt l i).e ≤ s.length ∧ (gt l i).k ≤ 3) ∧ (∀ j, preE at' l i ≤ j → j < (gt l i).a → gt s j = 32) ∧
    (∀ j, (gt l i).a ≤ j → j < (gt l i).e → gt s j ≠ 32 ∧ kd (gt s j) = (gt l i).k) ∧ (1 < (gt l i).k → (gt l i).e = (gt l i).a + 1) ∧ (0 < i → (gt l i).k ≤ 1 → (gt l i).a = preE at' l i → (gt l i).k ≠ (gt l (i - 1)).k)
  | [], _, _, _, i, hi => by simp at hi
  | t :: r, at', pk, h, 0, _ => by
    obtain ⟨h1, h2, h3, h4, h5, h6⟩ := h
    exact ⟨h1, h2, h3, h4, fun h => absurd h (Nat.lt_irrefl 0)⟩
  | t :: r, at', pk, h, i + 1, hi => by
    obtain ⟨h1, h2, h3, h4, h5, h6⟩ := h
    have ih := h6.get i (by simpa using hi)
    have e : preE at' (t :: r) (i + 1) = preE t.e r i := by
      unfold preE
      rw [if_neg (by omega)]
      cases i with
      | zero => rfl
      | succ i => rw [if_neg (by omega)]; simp only [Nat.add_sub_cancel]; rw [gt_consS]
    rw [e]
    simp only [gt_consS, Nat.add_sub_cancel]
    refine ⟨ih.1, ih.2.1, ih.2.2.1, ih.2.2.2.1, fun _ hk ha => ?_⟩
    cases i with
    | zero =>
      rw [gt_cons0]
      intro hkk
      cases r with
      | nil => simp at hi
      | cons t2 r2 =>
        obtain ⟨q1, q2, q3, q4, q5, q6⟩ := h6
        rw [gt_cons0] at hk hkk ha
        have := q5 hk (by rw [hkk])
        have ha' : t2.a = t.e := ha
        omega
    | succ i =>
      have := ih.2.2.2.2 (by omega) hk ha
      rw [gt_consS]; exact this
theorem Cov.tail {s : List UInt8} : ∀ {l : List Tok} {at' : Nat} {pk : Option Nat}, Cov s at' pk l → ∀ j, preE at' l l.length ≤ j → j < s.length → gt s j = 32
  | [], at', _, h, j, h1, h2 => h j h1 h2
  | t :: r, at', pk, h, j, h1, h2 => by
    obtain ⟨_, _, _, _, _, h6⟩ := h
    refine h6.tail j ?_ h2
    have e : preE at' (t :: r) (t :: r).length = preE t.e r r.length := by
      unfold preE
      rw [if_neg (by simp)]
      cases r with
      | nil => rfl
      | cons t2 r2 => rw [if_neg (by simp)]; simp only [List.length_cons, Nat.add_sub_cancel]; rw [gt_consS]
    rw [← e]; exact h1
theorem toks_at (s : List UInt8) (i : Nat) (h : i < (toks s).length) : (preE 0 (toks s) i ≤ (gt (toks s) i).a ∧ (gt (toks s) i).a < (gt (toks s) i).e ∧ (gt (toks s) i).e ≤ s.length ∧ (gt (toks s) i).k ≤ 3) ∧ (∀ j, preE 0 (toks s) i ≤ j → j < (gt (toks s) i).a → gt s j = 32) ∧
    (∀ j, (gt (toks s) i).a ≤ j → j < (gt (toks s) i).e → gt s j ≠ 32 ∧ kd (gt s j) = (gt (toks s) i).k) ∧ (1 < (gt (toks s) i).k → (gt (toks s) i).e = (gt (toks s) i).a + 1) ∧ (0 < i → (gt (toks s) i).k ≤ 1 → (gt (toks s) i).a = preE 0 (toks s) i → (gt (toks s) i).k ≠ (gt (toks s) (i - 1)).k) := (toks_cov s).get i h
end Go.Sx
namespace Go.Sx
open Go.RowKit Go.Proofs
theorem preE_S (at' : Nat) (l : List Tok) (k : Nat) : preE at' l (k + 1) = (gt l k).e := by unfold preE; rw [if_neg (by omega)]; rfl
theorem not_bad {s : List UInt8} (h : ¬ bad s = true) (i : Nat) (hi : i < s.length) : badAt s i = false := by
  cases hb : badAt s i with
  | false => rfl
  | true => exact absurd (List.any_eq_true.2 ⟨i, List.mem_range.2 hi, hb⟩) h
theorem valid_facts {s : List UInt8} (h : validE s = 0) : s.length ≤ 4096 ∧ ¬ bad s = true ∧ 0 < s.length ∧ (toks s).length ≤ 256 := by
  unfold validE at h
  split at h
  · cases h
  · rename_i h1
    split at h
    · cases h
    · rename_i h2
      split at h
      · cases h
      · rename_i h3
        split at h
        · cases h
        · rename_i h4
          exact ⟨by omega, h2, List.length_pos_iff.2 h3, by omega⟩
theorem first_ne {s : List UInt8} (h : validE s = 0) : gt s 0 ≠ 32 := fun e => by
  obtain ⟨_, h2, h3, _⟩ := valid_facts h
  have := not_bad h2 0 h3
  unfold badAt at this
  rw [e] at this
  simp at this
theorem last_ne {s : List UInt8} (h : validE s = 0) : gt s (s.length - 1) ≠ 32 := fun e => by
  obtain ⟨_, h2, h3, _⟩ := valid_facts h
  have := not_bad h2 (s.length - 1) (by omega)
  unfold badAt at this
  rw [e] at this
  have e2 : s.length - 1 + 1 = s.length := by omega
  simp [e2] at this
theorem toks_pos {s : List UInt8} (h : validE s = 0) : 0 < (toks s).length := by
  rcases Nat.eq_zero_or_pos (toks s).length with h0 | h0
  · exfalso
    have := (toks_cov s).tail 0 (by rw [h0]; exact Nat.le_refl _) (valid_facts h).2.2.1
    exact first_ne h this
  · exact h0
theorem tok_first {s : List UInt8} (h : validE s = 0) : (gt (toks s) 0).a = 0 := by
  rcases Nat.eq_zero_or_pos (gt (toks s) 0).a with h0 | h0
  · exact h0
  · exfalso
    exact first_ne h ((toks_at s 0 (toks_pos h)).2.1 0 (Nat.zero_le _) h0)
theorem tok_last {s : List UInt8} (h : validE s = 0) : (gt (toks s) ((toks s).length - 1)).e = s.length := by
  have hp := toks_pos h
  have h1 := (toks_at s ((toks s).length - 1) (by omega)).1.2.2.1
  rcases Nat.lt_or_eq_of_le h1 with h0 | h0
  · exfalso
    refine last_ne h ((toks_cov s).tail (s.length - 1) ?_ (by omega))
    obtain ⟨m, hm⟩ : ∃ m, (toks s).length = m + 1 := ⟨(toks s).length - 1, by omega⟩
    rw [hm, preE_S]
    rw [hm, Nat.add_sub_cancel] at h0
    omega
  · exact h0
end Go.Sx
namespace Go.Sx
open Go.RowKit Go.Proofs
theorem okT_at : ∀ (s : List UInt8) (p : Bool), okT p s = true → ∀ i, i < s.length → 32 ≤ gt s i ∧ gt s i ≤ 126 ∧ (gt s i = 32 → (i = 0 → p = false) ∧ i + 1 ≠ s.length ∧ (0 < i → gt s (i - 1) ≠ 32))
  | [], p, _, i, hi => by simp at hi
  | c :: r, p, h, i, hi => by
    unfold okT at h
    by_cases hc : c = 32
    · subst hc
      rw [if_pos rfl, Bool.and_eq_true, Bool.not_eq_true'] at h
      have hr : r ≠ [] := by rintro rfl; simp [okT] at h
      cases i with
      | zero =>
        rw [gt_cons0]
        refine ⟨by decide, by decide, fun _ => ⟨fun _ => h.1, fun e => ?_, fun h => absurd h (Nat.lt_irrefl 0)⟩⟩
        have : r.length = 0 := by simpa using e.symm
        exact hr (List.length_eq_zero_iff.1 this)
      | succ i =>
        have ih := okT_at r true h.2 i (by simpa using hi)
        rw [gt_consS]
        refine ⟨ih.1, ih.2.1, fun e => ?_⟩
        obtain ⟨j1, j2, j3⟩ := ih.2.2 e
        refine ⟨fun h => absurd h (by omega), by simpa using j2, fun _ => ?_⟩
        cases i with
        | zero => exact absurd (j1 rfl) (by decide)
        | succ i => rw [Nat.add_sub_cancel, gt_consS]; have := j3 (by omega); rwa [Nat.add_sub_cancel] at this
    · rw [if_neg hc, Bool.and_eq_true, Bool.and_eq_true, decide_eq_true_eq, decide_eq_true_eq] at h
      cases i with
      | zero =>
        rw [gt_cons0]
        exact ⟨h.1.1, h.1.2, fun e => absurd e hc⟩
      | succ i =>
        have ih := okT_at r false h.2 i (by simpa using hi)
        rw [gt_consS]
        refine ⟨ih.1, ih.2.1, fun e => ?_⟩
        obtain ⟨j1, j2, j3⟩ := ih.2.2 e
        refine ⟨fun h => absurd h (by omega), by simpa using j2, fun _ => ?_⟩
        cases i with
        | zero => rw [gt_cons0]; exact hc
        | succ i => rw [Nat.add_sub_cancel, gt_consS]; have := j3 (by omega); rwa [Nat.add_sub_cancel] at this
theorem valid_of {s : List UInt8} (h : okT true s = true) (h0 : 0 < s.length) (hl : s.length ≤ 256) : validE s = 0 := by
  have hb : ¬ bad s = true := by
    intro hb
    obtain ⟨i, hi, hx⟩ := List.any_eq_true.1 hb
    obtain ⟨q1, q2, q3⟩ := okT_at s true h i (List.mem_range.1 hi)
    unfold badAt at hx
    simp only [Bool.or_eq_true, Bool.and_eq_true, decide_eq_true_eq] at hx
    rcases hx with (hx | hx) | ⟨hx, hy⟩
    · exact absurd q1 (by simpa using hx)
    · exact absurd q2 (by simpa using hx)
    · obtain ⟨j1, j2, j3⟩ := q3 hx
      rcases hy with (hy | hy) | hy
      · exact absurd (j1 hy) (by decide)
      · exact j2 hy
      · rcases Nat.eq_zero_or_pos i with h0 | h0
        · exact absurd (j1 h0) (by decide)
        · exact j3 h0 hy
  have ht := toks_len s
  unfold validE
  rw [if_neg (by omega), if_neg hb, if_neg (by rintro rfl; simp at h0), if_neg (by omega)]
theorem joinT_len (a b : List UInt8) : (joinT a b).length = a.length + 1 + b.length := by unfold joinT; simp; omega
theorem toks_joinT (a b : List UInt8) : toks (joinT a b) = toks a ++ (toks b).map (shT (a.length + 1)) := toks_join a b
theorem toks_joinL (a b : List UInt8) : (toks (joinT a b)).length = (toks a).length + (toks b).length := by rw [toks_joinT]; simp
theorem join_gtL (a b : List UInt8) {i : Nat} (h : i < (toks a).length) : gt (toks (joinT a b)) i = gt (toks a) i := by rw [toks_joinT, gt_left _ _ _ h]
theorem gt_right {α : Type} [Inhabited α] (l r : List α) (t : Nat) (h : l.length ≤ t) : gt (l ++ r) t = gt r (t - l.length) := by
  simp only [gt, List.getD]
  rw [List.getElem?_append_right h]
theorem join_gtR (a b : List UInt8) {i : Nat} (h : ¬ i < (toks a).length) (h2 : i - (toks a).length < (toks b).length) : gt (toks (joinT a b)) i = ⟨(gt (toks b) (i - (toks a).length)).a + a.length + 1, (gt (toks b) (i - (toks a).length)).e + a.length + 1, (gt (toks b) (i - (toks a).length)).k⟩ := by
  rw [toks_joinT, gt_right _ _ _ (by omega), gt_map _ _ _ h2]; rfl
theorem cut_join {a b : List UInt8} (ha : validE a = 0) (hb : validE b = 0) (hs : validE (joinT a b) = 0) : cutT (joinT a b) ((toks a).length : Int) = (a, b, 0) := by
  have h1 := toks_pos ha
  have h2 := toks_pos hb
  have h3 := toks_joinL a b
  have h4 := tok_last ha
  have h5 := tok_first hb
  have e1 : (gt (toks (joinT a b)) (toks a).length).a = a.length + 1 := by
    rw [join_gtR a b (Nat.lt_irrefl _) (by omega), Nat.sub_self]
    simp only []; omega
  have e2 : (gt (toks (joinT a b)) ((toks a).length - 1)).e = a.length := by
    rw [join_gtL a b (by omega)]; exact h4
  unfold cutT
  rw [if_neg (by rw [hs]; simp)]
  simp only [Int.toNat_natCast]
  rw [e1, e2, if_neg (by omega), Nat.add_sub_cancel]
  unfold joinT
  rw [List.take_left, ← List.drop_drop, List.drop_left]
  rfl
end Go.Sx
