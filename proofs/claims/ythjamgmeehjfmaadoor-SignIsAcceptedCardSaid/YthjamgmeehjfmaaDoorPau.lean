/-
  Package sign: the context with calls that act on boxes, and with the map's keys. And what follows.
-/
import Derived.Test.YthjamgmeehjfmaaDoorPat
import Derived.Test.YthjamgmeehjfmaaDoorPaa
set_option linter.unusedSimpArgs false
set_option linter.unusedVariables false
namespace Go.Sx
open Go.RowKit Go.Proofs
/-- The keys of the memo. -/
def kmS (t : TypeId) (u : Value) : Bool := t == 28 && (match u with
  | .agg vs => (match vs.toList with
    | [.int .i64 a, .int .i64 b] => decide (0 ≤ a ∧ a < 1000000 ∧ 0 ≤ b ∧ b < 1000000)
    | _ => false)
  | _ => false)
noncomputable def cxQ (gl : Nat → C) (M : Nat) (pu : Nat → List C → Option C) (hp : Nat → List C → Hp → Option (C × Hp)) : Cx := ⟨Tryd.prog, M, gl, pu, hp, fun _ => false, kmS⟩
section
variable (gl : Nat → C) (M : Nat) (pu : Nat → List C → Option C) (hp : Nat → List C → Hp → Option (C × Hp))
theorem cxQ_P : (cxQ gl M pu hp).P = Tryd.prog := rfl
end
theorem hMOQ {gl : Nat → C} {M : Nat} {pu : Nat → List C → Option C} {hp : Nat → List C → Hp → Option (C × Hp)} : (cxQ gl M pu hp).P.follows .mixedOrders = true := hMO (gl := gl) (M := M) (pu := pu)
attribute [go_sem] cxQ_P
theorem fa54b (b t n : Nat) : fieldAddrPlan Tryd.prog 54 (.bt b t n) 1 = some (vp (.bp b 1)) := by
  have h : fieldAddrPlan Tryd.prog 54 (.bt b t n) 1 = faQ (td Tryd.prog 52) b 1 := by
    rw [fa_td, td54]; exact fa_bt _ _ _ _ b t n 1 (Field.mk "buf" 52 1 false "" "strings" 8) rfl
  rw [h, td52]; exact faQ_some _ _ _ _ _ _ (by decide)
theorem oc_nilP : (Value.pointer none).oneCell' = true := rfl
attribute [go_sem] oc_nilP
attribute [go_sem high] fa54b
end Go.Sx
namespace Go.Sx
open Go.RowKit Go.Proofs
set_option maxRecDepth 100000 in
set_option maxHeartbeats 8000000 in
theorem fc25a {gl : Nat → C} {M : Nat} {pu : Nat → List C → Option C} {hp : Nat → List C → Hp → Option (C × Hp)} (hcx : CxOK (cxQ gl M pu hp)) (hq47 : ∀ (f : Bool) (x : C) (rest : Hp), x.noOwn → hp 47 [.bt 0 54 2] (some [bld0 f, x] :: rest) = some (.tup [], some [.bt 0 54 2, x] :: rest)) (hnr : ∀ (g : Nat) (xs : List C), noRefs 0 xs = false → pu g xs = none) (p : List UInt8) (hp0 : 0 < p.length) (hp1 : p.length ≤ 1000000000) : FC Tryd.prog gl 25 [.bt 0 54 2, sl bC .no p] [some [.val (.pointer none), .val (.slice none 0 0)]] (.tup [.val (nI p.length), .val .nilIface]) [some [.bt 0 54 2, .gv 1 p.length (1, 5)], some (cl bC p)] := by
 replace hcx := hcx.reN (M := 19)
 refine FC.ofH (cx := cxQ gl 19 pu hp) (rs := [.tmp 4, .tmp 5]) rfl Tryd.func25 rfl rfl rfl (by simp only [List.length_cons, List.length_nil]; decide)  ?_
 simp only [ini, go_sem]
 have en47 : pu 47 [.bt 0 54 2] = none := hnr 47 _ rfl
 have e47 := hq47 true (.val (.slice none 0 0)) [] trivial
 have e47 : hp 47 [.bt 0 54 2] [some [.val (.pointer none), .val (.slice none 0 0)]] = _ := e47
 refine Tr.seqK fun K1 hK1 => ?_
 refine Tr.rg hcx [] _ [] rfl rfl rfl ?_
 simp -implicitDefEqProofs (maxSteps := 2000000) (disch := first | omega | (simp only [go_sem, List.length_append, List.length_drop, List.length_take] <;> omega) | decide) only [go_sem, ↓reduceIte, Nat.reduceEqDiff, reduceCtorEq, Nat.reduceLT, Nat.reduceBEq, Nat.reduceAdd, Nat.reduceSub, Nat.reduceMul, Nat.reduceMod]
 refine hK1 _ ?_
 clear hK1 K1
 refine Tr.kp [0, 1] ?_
 simp only [pk_cons, pk_nil, ↓A_cons, ↓reduceIte, Nat.reduceEqDiff]
 refine Tr.seqK fun K2 hK2 => ?_
 refine Tr.rg hcx [] _ [] rfl rfl rfl ?_
 simp -implicitDefEqProofs (maxSteps := 2000000) (disch := first | omega | (simp only [go_sem, List.length_append, List.length_drop, List.length_take] <;> omega) | decide) only [go_sem, ↓reduceIte, Nat.reduceEqDiff, reduceCtorEq, Nat.reduceLT, Nat.reduceBEq, Nat.reduceAdd, Nat.reduceSub, Nat.reduceMul, Nat.reduceMod, en47, e47]
 refine hK2 _ ?_
 clear hK2 K2
 refine Tr.kp [0, 1] ?_
 simp only [pk_cons, pk_nil, ↓A_cons, ↓reduceIte, Nat.reduceEqDiff]
 refine Tr.seqK fun K3 hK3 => ?_
 refine Tr.rgG hcx [14] [12] _ [] rfl rfl rfl ?_
 simp -implicitDefEqProofs (maxSteps := 2000000) (disch := first | omega | (simp only [go_sem, List.length_append, List.length_drop, List.length_take] <;> omega) | decide) only [go_sem, ↓reduceIte, Nat.reduceEqDiff, reduceCtorEq, Nat.reduceLT, Nat.reduceBEq, Nat.reduceAdd, Nat.reduceSub, Nat.reduceMul, Nat.reduceMod]
 refine hK3 _ ?_
 clear hK3 K3
 refine Tr.kp [1] ?_
 simp only [pk_cons, pk_nil, ↓A_cons, ↓reduceIte, Nat.reduceEqDiff]
 refine Tr.seqK fun K4 hK4 => ?_
 refine Tr.rg hcx [1000018] _ [] rfl rfl rfl ?_
 simp -implicitDefEqProofs (maxSteps := 2000000) (disch := first | omega | (simp only [go_sem, List.length_append, List.length_drop, List.length_take] <;> omega) | decide) only [go_sem, ↓reduceIte, Nat.reduceEqDiff, reduceCtorEq, Nat.reduceLT, Nat.reduceBEq, Nat.reduceAdd, Nat.reduceSub, Nat.reduceMul, Nat.reduceMod]
 refine hK4 _ ?_
 clear hK4 K4
 refine Tr.kp [4, 5] ?_
 simp only [pk_cons, pk_nil, ↓A_cons, ↓reduceIte, Nat.reduceEqDiff]
 refine Tr.ret ?_
 simp -implicitDefEqProofs (disch := first | omega | (simp only [go_sem, List.length_append, List.length_drop, List.length_take] <;> omega) | decide) only [go_sem, ↓reduceIte, Nat.reduceEqDiff, reduceCtorEq]
 all_goals (rfl)
end Go.Sx
namespace Go.Sx
open Go.RowKit Go.Proofs
theorem freeze_at (w : World) (p : Addr) (n : Nat) (k : Nat) : (w.freeze p n).heap[k]? = w.heap[k]? ∨ ∃ cs e fr fr', w.heap[k]? = some (.cells cs e fr) ∧ (w.freeze p n).heap[k]? = some (.cells cs e fr') := by
  unfold World.freeze
  split
  · exact .inl rfl
  · simp only [Array.getElem?_modify]
    by_cases hk : p.block = k
    · rw [if_pos hk]
      cases hq : w.heap[k]? with
      | none => left; rfl
      | some o =>
        cases o with
        | cells c e fr => right; exact ⟨c, e, fr, _, rfl, rfl⟩
        | _ => left; rfl
    · rw [if_neg hk]; exact .inl rfl
theorem freeze_cell (w : World) (p : Addr) (n : Nat) (b o : Nat) : (w.freeze p n).cell? ⟨b, o, none⟩ = w.cell? ⟨b, o, none⟩ := by
  unfold World.cell?
  rcases freeze_at w p n b with h | ⟨cs, e, fr, fr', h1, h2⟩
  · simp only [h]
  · simp only [h1, h2]
theorem freeze_other (w : World) (p : Addr) (n : Nat) (k : Nat) (hk : k ≠ p.block) : (w.freeze p n).heap[k]? = w.heap[k]? := by
  unfold World.freeze
  split
  · rfl
  · simp only [Array.getElem?_modify]
    rw [if_neg (fun e => hk e.symm)]
theorem freeze_size (w : World) (p : Addr) (n : Nat) : (w.freeze p n).heap.size = w.heap.size := by
  unfold World.freeze
  split
  · rfl
  · simp
theorem repL_bytes {G : Gh} {l : List UInt8} {vs : List Value} (h : RepL G (cl bC l) vs) : vs = l.map fun b => .int .u8 b.toNat := by
  rw [← cl_bytes] at h
  have e : l.map byteC = (l.map fun b => Value.int .u8 b.toNat).map .val := by simp [byteC, Function.comp]
  rw [e] at h
  exact repL_vals h
theorem fc29 {gl : Nat → C} (he : Entered Tryd.prog 29) (l : List UInt8) (h0 : l ≠ []) (h63 : l.length ≤ 9223372036854775807) : FC Tryd.prog gl 29 [.bt 0 54 2] [some [.bt 0 54 2, .gv 1 l.length (1, 5)], some (cl bC l)] (.val (str l)) [some deadC, some deadC] := by
  refine ⟨he, fun G w vs W hT hgl hr => ?_⟩
  obtain ⟨v, hv, blk, hm, hp, hs⟩ : ∃ v, vs = #[v] ∧ ∃ blk, G.μ 0 = some blk ∧ v = .pointer (some ⟨blk, 0, none⟩) ∧ G.σ 0 = some (2, 54) := by
    simp only [RepL] at hr
    obtain ⟨v, vs', h1, h2, rfl⟩ := hr
    simp only [Rep] at h2
    obtain ⟨blk, q1, q2, q3⟩ := h2
    exact ⟨v, by apply Array.ext'; simpa using h1, blk, q1, q2, q3⟩
  subst hv hp
  have hat0 : Hp.at [some [.bt 0 54 2, .gv 1 l.length (1, 5)], some (cl bC l)] 0 = some [.bt 0 54 2, .gv 1 l.length (1, 5)] := rfl
  have hat1 : Hp.at [some [.bt 0 54 2, .gv 1 l.length (1, 5)], some (cl bC l)] 1 = some (cl bC l) := by
    show liveC (some (cl bC l)) = _
    cases l with
    | nil => rfl
    | cons b l => rfl
  obtain ⟨cs, e, ⟨fr, q1, _⟩, q2, q3, q4, q5, q6⟩ := box_cells W hat0 hm
  obtain ⟨u1, hu1, hr1⟩ := q2.get 1 _ rfl
  have hc1 := q4 1 u1 hu1
  simp only [Rep] at hr1
  obtain ⟨a, cap, rfl, hnc, hcm, hdj⟩ := hr1
  have hl0 : 0 < l.length := List.length_pos_iff.2 h0
  rcases hdj with ⟨h, _⟩ | ⟨g, m1, rfl, s1⟩
  · omega
  obtain ⟨g', cs1, e1, fr1, r1, r2, r3, r4⟩ := W.siz 1 _ s1
  rw [m1] at r1; cases r1
  simp only [Nat.mul_one] at r3 r4
  subst r4
  obtain ⟨cs2, e2, ⟨fr2, p1, _⟩, p2, p3, p4, p5, p6⟩ := box_cells W hat1 m1
  rw [r2] at p1
  obtain ⟨rfl, rfl⟩ : cs1 = cs2 ∧ fr1 = fr2 := by cases p1; exact ⟨rfl, rfl⟩
  have hlen : (cl bC l).length = l.length := by rw [← cl_bytes]; simp
  have hvs := repL_bytes p2
  refine (Tryd.bstr blk g cap l w cs1 fr1 hc1 r2 (by rw [hlen] at p5; exact p5) h63 (fun j x hx => p4 j _ (by rw [hvs, List.getElem?_map, hx]; rfl)) h0 (by omega)).mono ?_
  rintro e' w' ⟨h1, h2⟩
  have hat' : ∀ b, Hp.at [some deadC, some deadC] b = none := fun b => by
    match b with
    | 0 => rfl
    | 1 => rfl
    | b + 2 => rfl
  have hmp' : ∀ b, Hp.mp [some deadC, some deadC] b = none := fun b => by
    match b with
    | 0 => rfl
    | 1 => rfl
    | b + 2 => rfl
  have hcell : ∀ b o, w'.cell? ⟨b, o, none⟩ = w.cell? ⟨b, o, none⟩ := fun b o => by rw [h2]; exact freeze_cell w.drew _ _ b o
  have hsz : w'.heap.size = w.heap.size := by rw [h2]; exact freeze_size w.drew _ _
  have hoth : ∀ k, k ≠ g → w'.heap[k]? = w.heap[k]? := fun k hk => by rw [h2]; exact freeze_other w.drew _ _ k hk
  refine ⟨_, G, h1, rep_val.2 rfl, (fun s n xs e => by cases e), ⟨fun blk off u hk => by rw [hcell]; exact W.known blk off u hk, fun b c hb => (by rw [hat' b] at hb; cases hb), fun b blk hb => ?_, fun b b' c c' blk hb => (by rw [hat' b] at hb; cases hb), W.sep, fun g p hg => by rw [hsz]; exact W.tlt g p hg, fun b c off s n xs blk v hb => (by rw [hat' b] at hb; cases hb), fun b z hz => ?_, fun b l hb => (by rw [hmp' b] at hb; cases hb), fun b b' l l' blk hb => (by rw [hmp' b] at hb; cases hb)⟩, by rw [h2]; unfold World.freeze; split <;> rfl, by rw [h2]; unfold World.freeze; split <;> rfl, by rw [h2]; unfold World.freeze; split <;> rfl, by rw [hsz]; exact Nat.le_refl _, .refl G, fun k hk ht hmu => ⟨hoth k (fun e => hmu 1 (e ▸ m1)), ht, hmu, fun _ => rfl⟩⟩
  · obtain ⟨⟨c, hc⟩, hlt⟩ := W.dom b blk hb
    refine ⟨?_, by rw [hsz]; exact hlt⟩
    match b, hc with
    | 0, _ => exact ⟨deadC, rfl⟩
    | 1, _ => exact ⟨deadC, rfl⟩
    | b + 2, hc => cases hc
  · obtain ⟨k, c0, e0, f0, t1, t2, t3⟩ := W.siz b z hz
    by_cases hk : k = g
    · subst hk
      rcases freeze_at w.drew ⟨k, 0, none⟩ l.length k with h | ⟨ca, ea, fa, fb, a1, a2⟩
      · exact ⟨k, c0, e0, f0, t1, by rw [h2, h]; exact t2, t3⟩
      · have a1' : w.heap[k]? = some (.cells ca ea fa) := a1
        rw [t2] at a1'
        obtain ⟨rfl, rfl⟩ : c0 = ca ∧ e0 = ea := by cases a1'; exact ⟨rfl, rfl⟩
        exact ⟨k, c0, e0, fb, t1, by rw [h2]; exact a2, t3⟩
    · exact ⟨k, c0, e0, f0, t1, by rw [hoth k hk]; exact t2, t3⟩
end Go.Sx
namespace Go.Sx
open Go.RowKit
theorem loc_range' (n : Nat) : ∀ (k s b : Nat), loc (List.range' n k) s b = if n ≤ b ∧ b < n + k then some (s + (b - n)) else none
  | 0, s, b => by
    rw [if_neg (by omega)]; rfl
  | k + 1, s, b => by
    rw [List.range'_succ]
    simp only [loc]
    by_cases h : b = n
    · rw [if_pos h, if_pos (by omega)]; congr 1; omega
    · rw [if_neg h, loc_range' (n + 1) k (s + 1) b]
      by_cases h2 : n ≤ b ∧ b < n + (k + 1)
      · rw [if_pos (by omega), if_pos h2]; congr 1; omega
      · rw [if_neg (by omega), if_neg h2]
section
variable {n k : Nat}
theorem loc_sh {b : Nat} (h : b < k) : loc (List.range' n k) 0 (n + b) = some b := by
  rw [loc_range', if_pos (by omega)]; congr 1; omega
mutual
theorem mv_bk : ∀ c : C, noRef k c = true → mvC (List.range' n k) (bkC (n + ·) c) = c
  | .top, _ => by simp only [bkC, mvC]
  | .val v, _ => by simp only [bkC, mvC]
  | .sv b o m, h => by simp only [noRef, decide_eq_true_eq] at h; simp only [bkC, mvC, loc_sh h]
  | .gv b m s, h => by simp only [noRef, decide_eq_true_eq] at h; simp only [bkC, mvC, loc_sh h]
  | .bp b o, h => by simp only [noRef, decide_eq_true_eq] at h; simp only [bkC, mvC, loc_sh h]
  | .mp b, h => by simp only [noRef, decide_eq_true_eq] at h; simp only [bkC, mvC, loc_sh h]
  | .bt b t m, h => by simp only [noRef, decide_eq_true_eq] at h; simp only [bkC, mvC, loc_sh h]
  | .sl r m xs, h => by simp only [noRef] at h; simp only [bkC, mvC, mv_bks xs h]
  | .kp xs, h => by simp only [noRef] at h; simp only [bkC, mvC, mv_bks xs h]
  | .agg xs, h => by simp only [noRef] at h; simp only [bkC, mvC, mv_bks xs h]
  | .tup xs, h => by simp only [noRef] at h; simp only [bkC, mvC, mv_bks xs h]
  | .fn f xs, h => by simp only [noRef] at h; simp only [bkC, mvC, mv_bks xs h]
theorem mv_bks : ∀ l : List C, noRefs k l = true → mvCs (List.range' n k) (bkCs (n + ·) l) = l
  | [], _ => by simp only [bkCs, mvCs]
  | x :: l, h => by
    simp only [noRefs, Bool.and_eq_true] at h
    simp only [bkCs, mvCs, mv_bk x h.1, mv_bks l h.2]
end
end
/-- Shifted. -/
def shH (n : Nat) (h : Hp) : Hp := h.map (Option.map (bkCs (n + ·)))
def okBox (o : Option (List C)) : Bool := (liveC o).isSome || (mpL o).isSome || o.isNone
theorem shH_nil (n : Nat) : shH n [] = [] := rfl
theorem shH_cons (n : Nat) (o : Option (List C)) (h : Hp) : shH n (o :: h) = o.map (bkCs (n + ·)) :: shH n h := rfl
theorem live_bk {r : Nat → Nat} {o : Option (List C)} (h : (liveC o).isSome = true) : (liveC (o.map (bkCs r))).isSome = true := by
  cases o with
  | none => exact h
  | some cells =>
    cases cells with
    | nil => rfl
    | cons c l => cases c <;> first | rfl | (simp only [liveC] at h; cases h)
theorem mp_bk {r : Nat → Nat} {o : Option (List C)} (h : (mpL o).isSome = true) : (mpL (o.map (bkCs r))).isSome = true := by
  obtain ⟨l, hl⟩ := Option.isSome_iff_exists.1 h
  unfold mpL at hl
  split at hl
  · cases hl; rfl
  · cases hl
theorem FC.pre {P : Program} {gl : Nat → C} {f : Nat} {args : List C} {c : C} {X h' : Hp} (hf : FC P gl f args X c h') (pre : Hp) (hpre : ∀ o ∈ pre, okBox o = true) (hX : ∀ o ∈ X, ((liveC o).isSome || (mpL o).isSome) = true)
    (hn : noRefs X.length args = true) (hnX : ∀ o ∈ X, ∀ cells, o = some cells → noRefs X.length cells = true) (hk : X.length ≤ h'.length) (hg : ∀ g, noRef 0 (gl g) = true) :
    FC P gl f (bkCs (pre.length + ·) args) (pre ++ shH pre.length X) (bkC (pre.length + ·) c) (pre ++ shH pre.length h') := by
  have hρl : (List.range' pre.length X.length).length = X.length := by simp
  have hHl : (pre ++ shH pre.length X).length = pre.length + X.length := by simp [shH]
  have hget : ∀ i, (pre ++ shH pre.length X)[pre.length + i]? = (X[i]?).map (Option.map (bkCs (pre.length + ·))) := fun i => by
    rw [List.getElem?_append_right (by omega)]
    unfold shH
    rw [List.getElem?_map, show pre.length + i - pre.length = i by omega]
  have hmv : mvH (List.range' pre.length X.length) (pre ++ shH pre.length X) = X := by
    unfold mvH
    apply List.ext_getElem?
    intro i
    rw [List.getElem?_map]
    by_cases hi : i < X.length
    · rw [List.getElem?_range' hi, Option.map_some, Nat.one_mul, hget]
      rw [List.getElem?_eq_getElem hi]
      simp only [Option.map_some, Option.getD_some]
      congr 1
      cases hx : X[i] with
      | none => rfl
      | some cells =>
        simp only [Option.map_some]
        congr 1
        exact mv_bks cells (hnX _ (List.getElem_mem hi) cells hx)
    · rw [List.getElem?_eq_none (by rw [hρl]; omega), List.getElem?_eq_none (by omega)]; rfl
  have hR : bkR (List.range' pre.length X.length) (pre ++ shH pre.length X).length = (pre.length + ·) := by
    funext i
    unfold bkR
    by_cases hi : i < X.length
    · rw [List.getElem?_range' hi]; simp
    · rw [List.getElem?_eq_none (by rw [hρl]; omega)]
      simp only [hρl, hHl]
      omega
  have := FC.frameH (P := P) (gl := gl) (f := f) (args := bkCs (pre.length + ·) args) (c := c) (H := pre ++ shH pre.length X) (h' := h') (List.range' pre.length X.length) List.nodup_range' (fun b hb => by
      obtain ⟨h1, h2⟩ := List.mem_range'_1.1 hb
      obtain ⟨i, rfl⟩ : ∃ i, b = pre.length + i := ⟨b - pre.length, by omega⟩
      have hi : i < X.length := by omega
      have h3 := hX _ (List.getElem_mem hi)
      simp only [Bool.or_eq_true] at h3
      unfold Hp.at Hp.mp
      rw [hget, List.getElem?_eq_getElem hi]
      exact h3.imp (fun h => live_bk h) (fun h => mp_bk h))
    (fun b hb hnb => by
      rw [hHl] at hb
      have hlt : b < pre.length := by
        rcases Nat.lt_or_ge b pre.length with h | h
        · exact h
        · exact (hnb (List.mem_range'_1.2 ⟨h, by omega⟩)).elim
      have h3 := hpre _ (List.getElem_mem hlt)
      unfold Hp.at Hp.mp
      rw [List.getElem?_append_left hlt, List.getElem?_eq_getElem hlt]
      simp only [okBox, Bool.or_eq_true] at h3
      rcases h3 with (h | h) | h
      · exact .inl h
      · exact .inr (.inl h)
      · exact .inr (.inr (by congr 1; exact Option.isNone_iff_eq_none.1 h)))
    (by rw [hmv, mv_bks args hn]; exact hf) hg
  rw [hR] at this
  have hH : bkH (List.range' pre.length X.length) (pre ++ shH pre.length X) h' = pre ++ shH pre.length h' := by
    have hS : bkH (List.range' pre.length X.length) (pre ++ shH pre.length X) h' = ((List.range (pre.length + X.length)).map fun b => match loc (List.range' pre.length X.length) 0 b with
      | some i => ((h'[i]?).getD none).map (bkCs (pre.length + ·))
      | none => ((pre ++ shH pre.length X)[b]?).getD none) ++ (h'.drop X.length).map (Option.map (bkCs (pre.length + ·))) := by
      unfold bkH; rw [hR, hHl, hρl]; rfl
    rw [hS, List.range_add, List.map_append, List.append_assoc]
    congr 1
    · apply List.ext_getElem?
      intro i
      rw [List.getElem?_map]
      by_cases hi : i < pre.length
      · rw [List.getElem?_range hi, Option.map_some, loc_range', if_neg (by omega)]
        simp only []
        rw [List.getElem?_append_left hi, List.getElem?_eq_getElem hi]; rfl
      · rw [List.getElem?_eq_none (by simp; omega), List.getElem?_eq_none (by omega)]; rfl
    · unfold shH
      rw [List.map_map]
      conv => rhs; rw [← List.take_append_drop X.length h', List.map_append]
      congr 1
      apply List.ext_getElem?
      intro i
      rw [List.getElem?_map, List.getElem?_map, List.getElem?_take]
      by_cases hi : i < X.length
      · rw [List.getElem?_range hi, if_pos hi, List.getElem?_eq_getElem (by omega)]
        simp only [Option.map_some, Function.comp, loc_sh hi]
        rw [List.getElem?_eq_getElem (by omega)]; rfl
      · rw [List.getElem?_eq_none (by simp; omega), if_neg hi]; rfl
  rw [hH] at this
  exact this
/-- A call with a row in which nothing stands of what it names: never made. -/
theorem FC.never {P : Program} {gl : Nat → C} {f : Nat} {args : List C} {c : C} {h' : Hp} (he : Entered P f) (b t n : Nat) (l : List C) (ha : args = .bt b t n :: l) : FC P gl f args [] c h' := by
  refine ⟨he, fun G w vs W _ _ hr => ?_⟩
  subst ha
  simp only [RepL, Rep] at hr
  obtain ⟨v, vs', _, ⟨blk, h1, _⟩, _⟩ := hr
  obtain ⟨⟨c, hc⟩, _⟩ := W.dom b blk h1
  cases hc
end Go.Sx
namespace Go.Sx
open Go.RowKit
def svG (s y : Nat) (z : List Value) (n o m : Nat) (c : Option (List C)) : Option (List C) := c.bind fun cells =>
  if o + m * s ≤ cells.length ∧ decide ((((cells.drop o).take (m * s)).map C.noR).length = m * s ∧ 0 < s ∧ z.length = s ∧ (n + m) * y ≤ 140737488355328 ∧ n + m ≤ 9223372036854775807 ∧ z.all (·.oneCell') = true) = true then some (((cells.drop o).take (m * s)).map C.noR) else none
theorem svG_none (s y : Nat) (z : List Value) (n o m : Nat) : svG s y z n o m none = none := rfl
theorem gwQ_nilsv (e : Nat) (u : TypeDesc) (s y : Nat) (z : List Value) (b o m : Nat) : gwQ e (some ⟨u, s, y, z⟩) (.val (.slice none 0 0)) (.sv b o m) = some (.ap none (s, e) m fun h => svG s y z 0 o m (h.at b)) := rfl
theorem gwQ_gvsv (e : Nat) (u : TypeDesc) (s y : Nat) (z : List Value) (b' n b o m : Nat) : gwQ e (some ⟨u, s, y, z⟩) (.gv b' n (s, e)) (.sv b o m) = some (.ap (some (b', n)) (s, e) m fun h => svG s y z n o m (h.at b)) := by
  unfold gwQ
  simp only [if_true]
  rfl
theorem svG_cl {α : Type} (f : α → List C) {s : Nat} [hf : Cel f s] (y : Nat) (z : List Value) (n m : Nat) (l : List α) (hm : m = l.length ∧ z.length = s ∧ z.all (·.oneCell') = true ∧ (n + m) * y ≤ 140737488355328 ∧ n + m ≤ 9223372036854775807) :
    svG s y z n 0 m (some (cl f l)) = some (cl f l) := by
  obtain ⟨rfl, h1, h2, h3, h4⟩ := hm
  have hl := cl_len (f := f) l
  have e : ((List.drop 0 (cl f l)).take (l.length * s)).map C.noR = cl f l := by
    rw [List.drop_zero, List.take_of_length_le (by omega), cl_noR]
  unfold svG
  simp only [Option.bind_some]
  rw [e, if_pos ⟨by omega, by simp only [decide_eq_true_eq]; exact ⟨hl, hf.pos, h1, h3, h4, h2⟩⟩]
theorem apFP_none (h : Hp) : apFP none h = (4, 0) := rfl
theorem svG_w8 (y : UInt8) (n m : Nat) (l : List UInt8) (hm : m = l.length ∧ n + m ≤ 140737488355328) : svG 1 1 [w8 y] n 0 m (some (cl bC l)) = some (cl bC l) :=
  svG_cl bC 1 [w8 y] n m l ⟨hm.1, rfl, rfl, by omega, by omega⟩
mutual
theorem mvC_nr (ρ : List Nat) : ∀ c : C, noRef 0 c = true → mvC ρ c = c
  | .top, _ => by simp only [mvC]
  | .val v, _ => by simp only [mvC]
  | .sv b o m, h => by simp [noRef] at h
  | .gv b m s, h => by simp [noRef] at h
  | .bp b o, h => by simp [noRef] at h
  | .mp b, h => by simp [noRef] at h
  | .bt b t m, h => by simp [noRef] at h
  | .sl r m xs, h => by simp only [noRef] at h; simp only [mvC, mvCs_nr ρ xs h]
  | .kp xs, h => by simp only [noRef] at h; simp only [mvC, mvCs_nr ρ xs h]
  | .agg xs, h => by simp only [noRef] at h; simp only [mvC, mvCs_nr ρ xs h]
  | .tup xs, h => by simp only [noRef] at h; simp only [mvC, mvCs_nr ρ xs h]
  | .fn f xs, h => by simp only [noRef] at h; simp only [mvC, mvCs_nr ρ xs h]
theorem mvCs_nr (ρ : List Nat) : ∀ l : List C, noRefs 0 l = true → mvCs ρ l = l
  | [], _ => by simp only [mvCs]
  | x :: l, h => by
    simp only [noRefs, Bool.and_eq_true] at h
    simp only [mvCs, mvC_nr ρ x h.1, mvCs_nr ρ l h.2]
end
attribute [go_sem] apFP_none svG_w8
attribute [go_sem] svG_none gwQ_nilsv gwQ_gvsv svG_cl
end Go.Sx
namespace Go.Sx
open Go.RowKit
def midR (n k s : Nat) (i : Nat) : Nat := if i < k then n + i else n + s + i
theorem FC.mid {P : Program} {gl : Nat → C} {f : Nat} {args : List C} {c : C} {X h' : Hp} (hf : FC P gl f args X c h') (pre suf : Hp) (hpre : ∀ o ∈ pre, okBox o = true) (hsuf : ∀ o ∈ suf, okBox o = true) (hX : ∀ o ∈ X, ((liveC o).isSome || (mpL o).isSome) = true)
    (hn : noRefs X.length args = true) (hnX : ∀ o ∈ X, ∀ cells, o = some cells → noRefs X.length cells = true) (hk : X.length ≤ h'.length) (hg : ∀ g, noRef 0 (gl g) = true) :
    FC P gl f (bkCs (pre.length + ·) args) (pre ++ (shH pre.length X ++ suf)) (bkC (midR pre.length X.length suf.length) c)
      (pre ++ ((h'.take X.length).map (Option.map (bkCs (midR pre.length X.length suf.length))) ++ (suf ++ (h'.drop X.length).map (Option.map (bkCs (midR pre.length X.length suf.length)))))) := by
  have hρl : (List.range' pre.length X.length).length = X.length := by simp
  have hHl : (pre ++ (shH pre.length X ++ suf)).length = pre.length + (X.length + suf.length) := by simp [shH]
  have hget : ∀ i, i < X.length → (pre ++ (shH pre.length X ++ suf))[pre.length + i]? = (X[i]?).map (Option.map (bkCs (pre.length + ·))) := fun i hi => by
    rw [List.getElem?_append_right (by omega), show pre.length + i - pre.length = i by omega, List.getElem?_append_left (by simp [shH]; omega)]
    unfold shH
    rw [List.getElem?_map]
  have hmv : mvH (List.range' pre.length X.length) (pre ++ (shH pre.length X ++ suf)) = X := by
    unfold mvH
    apply List.ext_getElem?
    intro i
    rw [List.getElem?_map]
    by_cases hi : i < X.length
    · rw [List.getElem?_range' hi, Option.map_some, Nat.one_mul, hget i hi]
      rw [List.getElem?_eq_getElem hi]
      simp only [Option.map_some, Option.getD_some]
      congr 1
      cases hx : X[i] with
      | none => rfl
      | some cells =>
        simp only [Option.map_some]
        congr 1
        exact mv_bks cells (hnX _ (List.getElem_mem hi) cells hx)
    · rw [List.getElem?_eq_none (by rw [hρl]; omega), List.getElem?_eq_none (by omega)]; rfl
  have hR : bkR (List.range' pre.length X.length) (pre ++ (shH pre.length X ++ suf)).length = midR pre.length X.length suf.length := by
    funext i
    unfold bkR midR
    by_cases hi : i < X.length
    · rw [List.getElem?_range' hi, if_pos hi]; simp
    · rw [List.getElem?_eq_none (by rw [hρl]; omega), if_neg hi]
      simp only [hρl, hHl]
      omega
  have := FC.frameH (P := P) (gl := gl) (f := f) (args := bkCs (pre.length + ·) args) (c := c) (H := pre ++ (shH pre.length X ++ suf)) (h' := h') (List.range' pre.length X.length) List.nodup_range' (fun b hb => by
      obtain ⟨h1, h2⟩ := List.mem_range'_1.1 hb
      obtain ⟨i, rfl⟩ : ∃ i, b = pre.length + i := ⟨b - pre.length, by omega⟩
      have hi : i < X.length := by omega
      have h3 := hX _ (List.getElem_mem hi)
      simp only [Bool.or_eq_true] at h3
      unfold Hp.at Hp.mp
      rw [hget i hi, List.getElem?_eq_getElem hi]
      exact h3.imp (fun h => live_bk h) (fun h => mp_bk h))
    (fun b hb hnb => by
      rw [hHl] at hb
      have key : ∃ o, (pre ++ (shH pre.length X ++ suf))[b]? = some o ∧ okBox o = true := by
        rcases Nat.lt_or_ge b pre.length with h | h
        · exact ⟨_, by rw [List.getElem?_append_left h, List.getElem?_eq_getElem h], hpre _ (List.getElem_mem h)⟩
        · have h2 : pre.length + X.length ≤ b := by
            rcases Nat.lt_or_ge b (pre.length + X.length) with h2 | h2
            · exact (hnb (List.mem_range'_1.2 ⟨h, h2⟩)).elim
            · exact h2
          have h3 : b - pre.length - X.length < suf.length := by omega
          refine ⟨suf[b - pre.length - X.length], ?_, hsuf _ (List.getElem_mem h3)⟩
          rw [List.getElem?_append_right h, List.getElem?_append_right (by simp [shH]; omega)]
          rw [show (shH pre.length X).length = X.length by simp [shH], List.getElem?_eq_getElem h3]
      obtain ⟨o, ho, h3⟩ := key
      unfold Hp.at Hp.mp
      rw [ho]
      simp only [okBox, Bool.or_eq_true] at h3
      rcases h3 with (h | h) | h
      · exact .inl h
      · exact .inr (.inl h)
      · exact .inr (.inr (by congr 1; exact Option.isNone_iff_eq_none.1 h)))
    (by rw [hmv, mv_bks args hn]; exact hf) hg
  rw [hR] at this
  have hH : bkH (List.range' pre.length X.length) (pre ++ (shH pre.length X ++ suf)) h' = pre ++ ((h'.take X.length).map (Option.map (bkCs (midR pre.length X.length suf.length))) ++ (suf ++ (h'.drop X.length).map (Option.map (bkCs (midR pre.length X.length suf.length))))) := by
    have hS : bkH (List.range' pre.length X.length) (pre ++ (shH pre.length X ++ suf)) h' = ((List.range (pre.length + (X.length + suf.length))).map fun b => match loc (List.range' pre.length X.length) 0 b with
      | some i => ((h'[i]?).getD none).map (bkCs (midR pre.length X.length suf.length))
      | none => ((pre ++ (shH pre.length X ++ suf))[b]?).getD none) ++ (h'.drop X.length).map (Option.map (bkCs (midR pre.length X.length suf.length))) := by
      unfold bkH; rw [hR, hHl, hρl]; rfl
    rw [hS, List.range_add, List.range_add, List.map_append, List.map_append, List.map_append, List.append_assoc, List.append_assoc]
    congr 1
    · apply List.ext_getElem?
      intro i
      rw [List.getElem?_map]
      by_cases hi : i < pre.length
      · rw [List.getElem?_range hi, Option.map_some, loc_range', if_neg (by omega)]
        simp only []
        rw [List.getElem?_append_left hi, List.getElem?_eq_getElem hi]; rfl
      · rw [List.getElem?_eq_none (by simp; omega), List.getElem?_eq_none (by omega)]; rfl
    · congr 1
      · apply List.ext_getElem?
        intro i
        rw [List.map_map, List.getElem?_map, List.getElem?_map, List.getElem?_take]
        by_cases hi : i < X.length
        · rw [List.getElem?_range hi, if_pos hi, List.getElem?_eq_getElem (by omega)]
          simp only [Option.map_some, Function.comp, loc_sh hi]
          rw [List.getElem?_eq_getElem (by omega)]; rfl
        · rw [List.getElem?_eq_none (by simp; omega), if_neg hi]; rfl
      · congr 1
        apply List.ext_getElem?
        intro i
        rw [List.map_map, List.map_map, List.getElem?_map]
        by_cases hi : i < suf.length
        · rw [List.getElem?_range hi]
          simp only [Option.map_some, Function.comp]
          rw [loc_range', if_neg (by omega)]
          simp only []
          rw [List.getElem?_append_right (by omega), List.getElem?_append_right (by simp [shH] <;> omega)]
          rw [show pre.length + (X.length + i) - pre.length - (shH pre.length X).length = i by simp [shH] <;> omega, List.getElem?_eq_getElem hi]; rfl
        · rw [List.getElem?_eq_none (by simp; omega), List.getElem?_eq_none (by omega)]; rfl
  rw [hH] at this
  exact this
end Go.Sx
namespace Go.Sx
open Go.RowKit Go.Proofs
theorem lay1str' (a : List UInt8) : lay1s 1 (cl sC [[]]) [(0, C.val (str a))] = some (vp (sl sC .full [a])) := rfl
/-- The boxes ahead of the leaf's result. -/
def leafH (V : Nat → List UInt8) (a : Nat) : Hp := if a = 0 then [some (cl bC (List.replicate 16 0)), some [.val (.pointer none), .val (.slice none 0 0)]] else [some (cl bC (List.replicate 16 0)), some [.bt 1 54 2, .gv 2 (16 * a) (1, 5)], some (cl bC (catV V a))]
theorem leafH_0 {V : Nat → List UInt8} {a : Nat} (h : a = 0) : leafH V a = [some (cl bC (List.replicate 16 0)), some [.val (.pointer none), .val (.slice none 0 0)]] := if_pos h
theorem leafH_S {V : Nat → List UInt8} {a : Nat} (h : a ≠ 0) : leafH V a = [some (cl bC (List.replicate 16 0)), some [.bt 1 54 2, .gv 2 (16 * a) (1, 5)], some (cl bC (catV V a))] := if_neg h
theorem okN : ∀ o ∈ [(none : Option (List C))], okBox o = true := by intro o ho; simp only [List.mem_singleton] at ho; subst ho; rfl
theorem okZ : ∀ o ∈ [some (cl bC (List.replicate 16 0))], okBox o = true := by intro o ho; simp only [List.mem_singleton] at ho; subst ho; rfl
set_option maxRecDepth 100000 in
set_option maxHeartbeats 8000000 in
theorem fc25f {gl : Nat → C} {M : Nat} {pu : Nat → List C → Option C} {hp : Nat → List C → Hp → Option (C × Hp)} (hcx : CxOK (cxQ gl M pu hp)) (hq47 : ∀ (f : Bool) (x : C) (rest : Hp), x.noOwn → hp 47 [.bt 0 54 2] (some [bld0 f, x] :: rest) = some (.tup [], some [.bt 0 54 2, x] :: rest)) (hnr : ∀ (g : Nat) (xs : List C), noRefs 0 xs = false → pu g xs = none) (p : List UInt8) (hp0 : 0 < p.length) (hp1 : p.length ≤ 1000000000) : FC Tryd.prog gl 25 [.bt 0 54 2, .sv 1 0 p.length] [some [.val (.pointer none), .val (.slice none 0 0)], some (cl bC p)] (.tup [.val (nI p.length), .val .nilIface]) [some [.bt 0 54 2, .gv 2 p.length (1, 5)], some (cl bC p), some (cl bC p)] := by
 replace hcx := hcx.reN (M := 19)
 refine FC.ofH (cx := cxQ gl 19 pu hp) (rs := [.tmp 4, .tmp 5]) rfl Tryd.func25 rfl rfl rfl (by simp only [List.length_cons, List.length_nil]; decide)  ?_
 simp only [ini, go_sem]
 have en47 : pu 47 [.bt 0 54 2] = none := hnr 47 _ rfl
 have e47 := hq47 true (.val (.slice none 0 0)) [some (cl bC p)] trivial
 have e47 : hp 47 [.bt 0 54 2] [some [.val (.pointer none), .val (.slice none 0 0)], some (cl bC p)] = _ := e47
 refine Tr.seqK fun K1 hK1 => ?_
 refine Tr.rg hcx [] _ [] rfl rfl rfl ?_
 simp -implicitDefEqProofs (maxSteps := 2000000) (disch := first | omega | (simp only [go_sem, List.length_append, List.length_drop, List.length_take] <;> omega) | decide) only [go_sem, ↓reduceIte, Nat.reduceEqDiff, reduceCtorEq, Nat.reduceLT, Nat.reduceBEq, Nat.reduceAdd, Nat.reduceSub, Nat.reduceMul, Nat.reduceMod]
 refine hK1 _ ?_
 clear hK1 K1
 refine Tr.kp [0, 1] ?_
 simp only [pk_cons, pk_nil, ↓A_cons, ↓reduceIte, Nat.reduceEqDiff]
 refine Tr.seqK fun K2 hK2 => ?_
 refine Tr.rg hcx [] _ [] rfl rfl rfl ?_
 simp -implicitDefEqProofs (maxSteps := 2000000) (disch := first | omega | (simp only [go_sem, List.length_append, List.length_drop, List.length_take] <;> omega) | decide) only [go_sem, ↓reduceIte, Nat.reduceEqDiff, reduceCtorEq, Nat.reduceLT, Nat.reduceBEq, Nat.reduceAdd, Nat.reduceSub, Nat.reduceMul, Nat.reduceMod, en47, e47]
 refine hK2 _ ?_
 clear hK2 K2
 refine Tr.kp [0, 1] ?_
 simp only [pk_cons, pk_nil, ↓A_cons, ↓reduceIte, Nat.reduceEqDiff]
 refine Tr.seqK fun K3 hK3 => ?_
 refine Tr.rgG hcx [14] [12] _ [] rfl rfl rfl ?_
 simp -implicitDefEqProofs (maxSteps := 2000000) (disch := first | omega | (simp only [go_sem, List.length_append, List.length_drop, List.length_take] <;> omega) | decide) only [go_sem, ↓reduceIte, Nat.reduceEqDiff, reduceCtorEq, Nat.reduceLT, Nat.reduceBEq, Nat.reduceAdd, Nat.reduceSub, Nat.reduceMul, Nat.reduceMod]
 refine hK3 _ ?_
 clear hK3 K3
 refine Tr.kp [1] ?_
 simp only [pk_cons, pk_nil, ↓A_cons, ↓reduceIte, Nat.reduceEqDiff]
 refine Tr.seqK fun K4 hK4 => ?_
 refine Tr.rg hcx [1000018] _ [] rfl rfl rfl ?_
 simp -implicitDefEqProofs (maxSteps := 2000000) (disch := first | omega | (simp only [go_sem, List.length_append, List.length_drop, List.length_take] <;> omega) | decide) only [go_sem, ↓reduceIte, Nat.reduceEqDiff, reduceCtorEq, Nat.reduceLT, Nat.reduceBEq, Nat.reduceAdd, Nat.reduceSub, Nat.reduceMul, Nat.reduceMod]
 refine hK4 _ ?_
 clear hK4 K4
 refine Tr.kp [4, 5] ?_
 simp only [pk_cons, pk_nil, ↓A_cons, ↓reduceIte, Nat.reduceEqDiff]
 refine Tr.ret ?_
 simp -implicitDefEqProofs (disch := first | omega | (simp only [go_sem, List.length_append, List.length_drop, List.length_take] <;> omega) | decide) only [go_sem, ↓reduceIte, Nat.reduceEqDiff, reduceCtorEq]
 all_goals (rfl)
set_option maxRecDepth 100000 in
set_option maxHeartbeats 8000000 in
theorem fc25u {gl : Nat → C} {M : Nat} {pu : Nat → List C → Option C} {hp : Nat → List C → Hp → Option (C × Hp)} (hcx : CxOK (cxQ gl M pu hp)) (hq47 : ∀ (f : Bool) (x : C) (rest : Hp), x.noOwn → hp 47 [.bt 0 54 2] (some [bld0 f, x] :: rest) = some (.tup [], some [.bt 0 54 2, x] :: rest)) (hnr : ∀ (g : Nat) (xs : List C), noRefs 0 xs = false → pu g xs = none) (l p : List UInt8) (hp0 : 0 < p.length) (hp1 : p.length ≤ 1000000000) (hl1 : l.length ≤ 1000000000) : FC Tryd.prog gl 25 [.bt 0 54 2, .sv 2 0 p.length] [some [.bt 0 54 2, .gv 1 l.length (1, 5)], some (cl bC l), some (cl bC p)] (.tup [.val (nI p.length), .val .nilIface]) [some [.bt 0 54 2, .gv 3 (l ++ p).length (1, 5)], some deadC, some (cl bC p), some (cl bC (l ++ p))] := by
 replace hcx := hcx.reN (M := 19)
 refine FC.ofH (cx := cxQ gl 19 pu hp) (rs := [.tmp 4, .tmp 5]) rfl Tryd.func25 rfl rfl rfl (by simp only [List.length_cons, List.length_nil]; decide)  ?_
 simp only [ini, go_sem]
 have en47 : pu 47 [.bt 0 54 2] = none := hnr 47 _ rfl
 have e47 := hq47 false (.gv 1 l.length (1, 5)) [some (cl bC l), some (cl bC p)] trivial
 have e47 : hp 47 [.bt 0 54 2] [some [.bt 0 54 2, .gv 1 l.length (1, 5)], some (cl bC l), some (cl bC p)] = _ := e47
 refine Tr.seqK fun K1 hK1 => ?_
 refine Tr.rg hcx [] _ [] rfl rfl rfl ?_
 simp -implicitDefEqProofs (maxSteps := 2000000) (disch := first | omega | (simp only [go_sem, List.length_append, List.length_drop, List.length_take] <;> omega) | decide) only [go_sem, ↓reduceIte, Nat.reduceEqDiff, reduceCtorEq, Nat.reduceLT, Nat.reduceBEq, Nat.reduceAdd, Nat.reduceSub, Nat.reduceMul, Nat.reduceMod]
 refine hK1 _ ?_
 clear hK1 K1
 refine Tr.kp [0, 1] ?_
 simp only [pk_cons, pk_nil, ↓A_cons, ↓reduceIte, Nat.reduceEqDiff]
 refine Tr.seqK fun K2 hK2 => ?_
 refine Tr.rg hcx [] _ [] rfl rfl rfl ?_
 simp -implicitDefEqProofs (maxSteps := 2000000) (disch := first | omega | (simp only [go_sem, List.length_append, List.length_drop, List.length_take] <;> omega) | decide) only [go_sem, ↓reduceIte, Nat.reduceEqDiff, reduceCtorEq, Nat.reduceLT, Nat.reduceBEq, Nat.reduceAdd, Nat.reduceSub, Nat.reduceMul, Nat.reduceMod, en47, e47]
 refine hK2 _ ?_
 clear hK2 K2
 refine Tr.kp [0, 1] ?_
 simp only [pk_cons, pk_nil, ↓A_cons, ↓reduceIte, Nat.reduceEqDiff]
 refine Tr.seqK fun K3 hK3 => ?_
 refine Tr.rgG hcx [14] [12] _ [] rfl rfl rfl ?_
 simp -implicitDefEqProofs (maxSteps := 2000000) (disch := first | omega | (simp only [go_sem, List.length_append, List.length_drop, List.length_take] <;> omega) | decide) only [go_sem, ↓reduceIte, Nat.reduceEqDiff, reduceCtorEq, Nat.reduceLT, Nat.reduceBEq, Nat.reduceAdd, Nat.reduceSub, Nat.reduceMul, Nat.reduceMod]
 refine hK3 _ ?_
 clear hK3 K3
 refine Tr.kp [1] ?_
 simp only [pk_cons, pk_nil, ↓A_cons, ↓reduceIte, Nat.reduceEqDiff]
 refine Tr.seqK fun K4 hK4 => ?_
 refine Tr.rg hcx [1000018] _ [] rfl rfl rfl ?_
 simp -implicitDefEqProofs (maxSteps := 2000000) (disch := first | omega | (simp only [go_sem, List.length_append, List.length_drop, List.length_take] <;> omega) | decide) only [go_sem, ↓reduceIte, Nat.reduceEqDiff, reduceCtorEq, Nat.reduceLT, Nat.reduceBEq, Nat.reduceAdd, Nat.reduceSub, Nat.reduceMul, Nat.reduceMod]
 refine hK4 _ ?_
 clear hK4 K4
 refine Tr.kp [4, 5] ?_
 simp only [pk_cons, pk_nil, ↓A_cons, ↓reduceIte, Nat.reduceEqDiff]
 refine Tr.ret ?_
 simp -implicitDefEqProofs (disch := first | omega | (simp only [go_sem, List.length_append, List.length_drop, List.length_take] <;> omega) | decide) only [go_sem, ↓reduceIte, Nat.reduceEqDiff, reduceCtorEq]
 all_goals (rfl)
set_option maxRecDepth 100000 in
set_option maxHeartbeats 8000000 in
theorem fc38 {gl : Nat → C} {M : Nat} {pu : Nat → List C → Option C} {hp : Nat → List C → Hp → Option (C × Hp)} (hcx : CxOK (cxQ gl M pu hp)) (hq25f : ∀ (pre : Hp) (p : List UInt8), (∀ o ∈ pre, okBox o = true) → 0 < p.length ∧ p.length ≤ 1000000000 → hp 25 [.bt pre.length 54 2, .sv (pre.length + 1) 0 p.length] (pre ++ [some [.val (.pointer none), .val (.slice none 0 0)], some (cl bC p)]) = some (.tup [.val (nI p.length), .val .nilIface], pre ++ [some [.bt pre.length 54 2, .gv (pre.length + 2) p.length (1, 5)], some (cl bC p), some (cl bC p)])) (hq25u : ∀ (pre : Hp) (l p : List UInt8), (∀ o ∈ pre, okBox o = true) → 0 < p.length ∧ p.length ≤ 1000000000 ∧ l.length ≤ 1000000000 → hp 25 [.bt pre.length 54 2, .sv (pre.length + 2) 0 p.length] (pre ++ [some [.bt pre.length 54 2, .gv (pre.length + 1) l.length (1, 5)], some (cl bC l), some (cl bC p)]) = some (.tup [.val (nI p.length), .val .nilIface], pre ++ [some [.bt pre.length 54 2, .gv (pre.length + 3) (l ++ p).length (1, 5)], some deadC, some (cl bC p), some (cl bC (l ++ p))])) (hq25n : ∀ (b k m : Nat), ∃ r, hp 25 [.bt b 54 2, .sv k 0 m] [] = some r) (hq29 : ∀ (pre suf : Hp) (l : List UInt8), (∀ o ∈ pre, okBox o = true) → (∀ o ∈ suf, okBox o = true) → l ≠ [] ∧ l.length ≤ 1000000000 → hp 29 [.bt pre.length 54 2] (pre ++ ([some [.bt pre.length 54 2, .gv (pre.length + 1) l.length (1, 5)], some (cl bC l)] ++ suf)) = some (.val (str l), pre ++ ([some deadC, some deadC] ++ suf))) (h34 : ∀ (tag : Int) (parts : List (List UInt8)), (inp tag parts).length < 1099511627776 → pu 34 [.val (.int .i64 tag), sl sC .no parts] = some (.agg (cl bC ((sha (inp tag parts)).take 16)))) (hnr : ∀ (g : Nat) (xs : List C), noRefs 0 xs = false → pu g xs = none) (n : Nat) (caps : List C) (V : Nat → List UInt8) (hV : ∀ c, c < 68 → pu n (.val (nI c) :: caps) = some (.agg (cl bC (V c)))) (hl : ∀ c, c < 68 → (V c).length = 16) (hcaps : noRefs 0 caps = true) : FC Tryd.prog gl 38 [.fn n caps] [] (.agg (cl bC (leafV V))) [] := by
 replace hcx := hcx.reN (M := 23)
 refine FC.ofA (cx := cxQ gl 23 pu hp) (rs := [.cell 2 23]) rfl Tryd.func38 rfl rfl rfl (by simp only [List.length_cons, List.length_nil]; decide) (by simp only [go_sem]) ?_
 simp only [ini, go_sem]
 have hmv := fun ρ => mvCs_nr ρ caps hcaps
 refine Tr.seqK fun K1 hK1 => ?_
 refine Tr.rg hcx [] _ [none] rfl rfl rfl ?_
 simp -implicitDefEqProofs (maxSteps := 2000000) (disch := first | omega | (simp only [go_sem, List.length_append, List.length_drop, List.length_take, ofT_len] <;> omega) | decide) only [go_sem, ↓reduceIte, Nat.reduceEqDiff, reduceCtorEq, Nat.reduceLT, Nat.reduceBEq, Nat.reduceAdd, Nat.reduceSub, Nat.reduceMul, Nat.reduceMod]
 refine hK1 _ ?_
 clear hK1 K1
 refine Tr.kp [0, 2] ?_
 simp only [pk_cons, pk_nil, ↓A_cons, ↓reduceIte, Nat.reduceEqDiff]
 refine Tr.seqK fun K2 hK2 => ?_
 refine Tr.rgG hcx [3] [] _ [none] rfl rfl rfl ?_
 simp -implicitDefEqProofs (maxSteps := 2000000) (disch := first | omega | (simp only [go_sem, List.length_append, List.length_drop, List.length_take, ofT_len] <;> omega) | decide) only [go_sem, ↓reduceIte, Nat.reduceEqDiff, reduceCtorEq, Nat.reduceLT, Nat.reduceBEq, Nat.reduceAdd, Nat.reduceSub, Nat.reduceMul, Nat.reduceMod]
 refine hK2 _ ?_
 clear hK2 K2
 refine Tr.kp [0, 2, 3] ?_
 simp only [pk_cons, pk_nil, ↓A_cons, ↓reduceIte, Nat.reduceEqDiff]
 refine Tr.seqK fun K3 hK3 => ?_
 refine Tr.seqK fun K4 hK4 => ?_
 refine Tr.rg hcx [] _ [] rfl rfl rfl ?_
 simp -implicitDefEqProofs (maxSteps := 2000000) (disch := first | omega | (simp only [go_sem, List.length_append, List.length_drop, List.length_take, ofT_len] <;> omega) | decide) only [go_sem, ↓reduceIte, Nat.reduceEqDiff, reduceCtorEq, Nat.reduceLT, Nat.reduceBEq, Nat.reduceAdd, Nat.reduceSub, Nat.reduceMul, Nat.reduceMod]
 refine hK4 _ ?_
 clear hK4 K4
 refine Tr.kp [0, 2, 3, 7] ?_
 simp only [pk_cons, pk_nil, ↓A_cons, ↓reduceIte, Nat.reduceEqDiff]
 refine Tr.blk ?_
 refine Tr.loopM hcx (α := Nat) (fun a => [(0, ?v0_26), (2, ?v2_26), (3, ?v3_26), (7, .val (nI a))]) (fun a => (leafH V a)) (fun a => a ≤ 68) (fun a => 68 - a) (0) (Nat.zero_le _) ?le_26 ?hh_26 ?bd_26
 case hh_26 => exact (leafH_0 rfl).symm
 case le_26 => (simp only [Le_nil, Le_cons, ↓A_cons, ↓reduceIte, Nat.reduceEqDiff, reduceCtorEq, CLe_refl, CLe_top, CLe_full, CLe_nil, CLe_own, and_true, true_and]; all_goals (repeat' first | exact CLe.refl _ | exact True.intro | (refine CLe_sln ?_; first | with_reducible rfl | (simp only [List.take_zero]; done) | (rfl; done)) | exact CLe_nI (by omega) | exact CLe_int (by omega) | exact CLe_inI (by omega) | exact CLe_nIi (by omega) | with_reducible apply And.intro))
 case bd_26 =>
  rintro c hc
  refine Tr.seqK fun K5 hK5 => ?_
  by_cases z0 : c = 0
  ·
   rw [leafH_0 z0]
   have z0o := z0
   clear z0
   have z0 := True.intro
   have hc8 : c < 68 := by omega
   have hlc := hl c hc8
   have eV := hV c hc8
   have hcl : (catV V c).length = 16 * c := catV_len' c fun k hk => hl k (by omega)
   first
     | (have e25 : hp 25 [.bt 1 54 2, .sv 2 0 16] [some (cl bC (List.replicate 16 0)), some [.val (.pointer none), .val (.slice none 0 0)], some (cl bC (V c))] = some (.tup [.val (nI 16), .val .nilIface], [some (cl bC (List.replicate 16 0)), some [.bt 1 54 2, .gv 3 16 (1, 5)], some (cl bC (V c)), some (cl bC (V c))]) := by
          have h := hq25f [some (cl bC (List.replicate 16 0))] (V c) okZ (by omega)
          rw [hlc] at h; exact h)
   have en25 : pu 25 [.bt 1 54 2, .sv 2 0 16] = none := hnr 25 _ rfl
   have en25b : pu 25 [.bt 1 54 2, .sv 3 0 16] = none := hnr 25 _ rfl
   obtain ⟨r2, en2⟩ := hq25n 1 2 16
   obtain ⟨r3, en3⟩ := hq25n 1 3 16
   have e25u : hp 25 [.bt 1 54 2, .sv 3 0 16] [some (cl bC (List.replicate 16 0)), some [.bt 1 54 2, .gv 2 (16 * c) (1, 5)], some (cl bC (catV V c)), some (cl bC (V c))] = some (.tup [.val (nI 16), .val .nilIface], [some (cl bC (List.replicate 16 0)), some [.bt 1 54 2, .gv 4 (16 * (c + 1)) (1, 5)], some deadC, some (cl bC (V c)), some (cl bC (catV V (c + 1)))]) := by
     have h := hq25u [some (cl bC (List.replicate 16 0))] (catV V c) (V c) okZ (by omega)
     rw [show (catV V c ++ V c).length = 16 * (c + 1) by rw [List.length_append]; omega, hcl, hlc] at h; exact h
   refine Tr.rg hcx [] _ [] rfl rfl rfl ?_
   simp -implicitDefEqProofs (maxSteps := 2000000) (disch := first | omega | (simp only [go_sem, List.length_append, List.length_drop, List.length_take, ofT_len] <;> omega) | decide) only [go_sem, ↓reduceIte, Nat.reduceEqDiff, reduceCtorEq, Nat.reduceLT, Nat.reduceBEq, Nat.reduceAdd, Nat.reduceSub, Nat.reduceMul, Nat.reduceMod, z0]
   refine hK5 _ ?_
   clear hK5 K5
   refine Tr.kp [0, 2, 3, 7, 8] ?_
   simp only [pk_cons, pk_nil, ↓A_cons, ↓reduceIte, Nat.reduceEqDiff]
   refine Tr.seqK fun K6 hK6 => ?_
   refine Tr.condG fun KT KF hT hF => ?_
   simp only [ev_tmp, ev_const, ↓A_cons, ↓reduceIte, Nat.reduceEqDiff, reduceCtorEq, condG_bool, GB_true, GB_false, decide_eq_true_eq]
   refine hT ?_
   clear hT hF KT KF
   refine Tr.skip ?_
   refine hK6 _ ?_
   clear hK6 K6
   refine Tr.kp [0, 2, 3, 7] ?_
   simp only [pk_cons, pk_nil, ↓A_cons, ↓reduceIte, Nat.reduceEqDiff]
   refine Tr.seqK fun K7 hK7 => ?_
   refine Tr.blk ?_
   refine Tr.seqK fun K8 hK8 => ?_
   refine Tr.rg hcx [1000009] _ [] rfl rfl rfl ?_
   simp -implicitDefEqProofs (maxSteps := 2000000) (disch := first | omega | (simp only [go_sem, List.length_append, List.length_drop, List.length_take, ofT_len] <;> omega) | decide) only [go_sem, ↓reduceIte, Nat.reduceEqDiff, reduceCtorEq, Nat.reduceLT, Nat.reduceBEq, Nat.reduceAdd, Nat.reduceSub, Nat.reduceMul, Nat.reduceMod, z0]
   refine hK8 _ ?_
   clear hK8 K8
   refine Tr.kp [0, 2, 3, 4, 7] ?_
   simp only [pk_cons, pk_nil, ↓A_cons, ↓reduceIte, Nat.reduceEqDiff]
   refine Tr.seqK fun K9 hK9 => ?_
   refine Tr.rg hcx [] _ [none] rfl rfl rfl ?_
   simp -implicitDefEqProofs (maxSteps := 2000000) (disch := first | omega | (simp only [go_sem, List.length_append, List.length_drop, List.length_take, ofT_len] <;> omega) | decide) only [go_sem, ↓reduceIte, Nat.reduceEqDiff, reduceCtorEq, Nat.reduceLT, Nat.reduceBEq, Nat.reduceAdd, Nat.reduceSub, Nat.reduceMul, Nat.reduceMod, z0, eV]
   refine hK9 _ ?_
   clear hK9 K9
   refine Tr.kp [0, 2, 3, 5, 7] ?_
   simp only [pk_cons, pk_nil, ↓A_cons, ↓reduceIte, Nat.reduceEqDiff]
   refine Tr.rg hcx [] _ [] rfl rfl rfl ?_
   simp -implicitDefEqProofs (maxSteps := 2000000) (disch := first | omega | (simp only [go_sem, List.length_append, List.length_drop, List.length_take, ofT_len] <;> omega) | decide) only [go_sem, ↓reduceIte, Nat.reduceEqDiff, reduceCtorEq, Nat.reduceLT, Nat.reduceBEq, Nat.reduceAdd, Nat.reduceSub, Nat.reduceMul, Nat.reduceMod, z0, en25, en25b, en2, en3, e25, e25u]
   refine hK7 _ ?_
   clear hK7 K7
   refine Tr.kp [0, 2, 3, 7] ?_
   simp only [pk_cons, pk_nil, ↓A_cons, ↓reduceIte, Nat.reduceEqDiff]
   refine Tr.rg hcx [] _ [] rfl rfl rfl ?_
   simp -implicitDefEqProofs (maxSteps := 2000000) (disch := first | omega | (simp only [go_sem, List.length_append, List.length_drop, List.length_take, ofT_len] <;> omega) | decide) only [go_sem, ↓reduceIte, Nat.reduceEqDiff, reduceCtorEq, Nat.reduceLT, Nat.reduceBEq, Nat.reduceAdd, Nat.reduceSub, Nat.reduceMul, Nat.reduceMod, z0]
   first
   | ((refine ⟨[0, 1, 3], ⟨by decide, by decide, by decide⟩, c + 1, ⟨by omega, by first | omega | (simp only []; omega)⟩, ?_, by simp only [mvH_eq, mvHa_nil, mvHa_cons, hget_0, hget_S, Option.map_some, Option.map_none, mvCs_cl, mvCs_f, mvCs_nil, mvCs_cons, mvC_val, mvC_top, mvC_sl, mvC_gv, mvC_sv, mvC_bp, mvC_agg, mvC_kp, mvGv_some, mvGv_none, mvSv_some, mvSv_none, mvBp_some, mvBp_none, loc_nil, loc_cons, ↓reduceIte, Nat.reduceEqDiff, reduceCtorEq, Nat.reduceAdd, Nat.zero_add, Nat.one_ne_zero, Nat.zero_ne_one, mvC_fn, mvC_bt, mvBt_some, mvBt_none, mvC_mp, mvMp_some, mvMp_none]; first | (rw [leafH_S (Nat.succ_ne_zero c), show catV V (c + 1) = V c by rw [z0o]; rfl, show 16 * (c + 1) = 16 by omega]; done) | (rw [leafH_S (Nat.succ_ne_zero c)]; done)⟩); (simp only [Le_nil, Le_cons, ↓A_cons, CLe_refl, CLe_top, CLe_full, CLe_nil, CLe_own, and_true, true_and, mvH_eq, mvHa_nil, mvHa_cons, hget_0, hget_S, Option.map_some, Option.map_none, mvCs_cl, mvCs_f, mvCs_nil, mvCs_cons, mvC_val, mvC_top, mvC_sl, mvC_gv, mvC_sv, mvC_bp, mvC_agg, mvC_kp, mvGv_some, mvGv_none, mvSv_some, mvSv_none, mvBp_some, mvBp_none, loc_nil, loc_cons, ↓reduceIte, Nat.reduceEqDiff, reduceCtorEq, Nat.reduceAdd, Nat.zero_add, Nat.one_ne_zero, Nat.zero_ne_one, mvC_fn, mvC_bt, mvBt_some, mvBt_none, mvC_mp, mvMp_some, mvMp_none]; all_goals (repeat' first | exact CLe.refl _ | exact True.intro | (with_reducible refine And.intro ?_ ?_))); (all_goals first | exact CLe.refl _ | (rw [hmv]; exact CLe.refl _)); (done))
  ·
   rw [leafH_S z0]
   have z0o := z0
   clear z0
   have z0 := True.intro
   refine Tr.rg hcx [] _ [] rfl rfl rfl ?_
   simp -implicitDefEqProofs (maxSteps := 2000000) (disch := first | omega | (simp only [go_sem, List.length_append, List.length_drop, List.length_take, ofT_len] <;> omega) | decide) only [go_sem, ↓reduceIte, Nat.reduceEqDiff, reduceCtorEq, Nat.reduceLT, Nat.reduceBEq, Nat.reduceAdd, Nat.reduceSub, Nat.reduceMul, Nat.reduceMod, z0]
   refine hK5 _ ?_
   clear hK5 K5
   refine Tr.kp [0, 2, 3, 7, 8] ?_
   simp only [pk_cons, pk_nil, ↓A_cons, ↓reduceIte, Nat.reduceEqDiff]
   refine Tr.seqK fun K10 hK10 => ?_
   refine Tr.condG fun KT KF hT hF => ?_
   simp only [ev_tmp, ev_const, ↓A_cons, ↓reduceIte, Nat.reduceEqDiff, reduceCtorEq, condG_bool, GB_true, GB_false, decide_eq_true_eq]
   refine GB.dec (fun hc8 => hT ?_) (fun hc8 => hF ?_)
   ·
    clear hT hF KT KF
    have hlc := hl c hc8
    have eV := hV c hc8
    have hcl : (catV V c).length = 16 * c := catV_len' c fun k hk => hl k (by omega)
    first
      | (have e25 : hp 25 [.bt 1 54 2, .sv 2 0 16] [some (cl bC (List.replicate 16 0)), some [.val (.pointer none), .val (.slice none 0 0)], some (cl bC (V c))] = some (.tup [.val (nI 16), .val .nilIface], [some (cl bC (List.replicate 16 0)), some [.bt 1 54 2, .gv 3 16 (1, 5)], some (cl bC (V c)), some (cl bC (V c))]) := by
           have h := hq25f [some (cl bC (List.replicate 16 0))] (V c) okZ (by omega)
           rw [hlc] at h; exact h)
    have en25 : pu 25 [.bt 1 54 2, .sv 2 0 16] = none := hnr 25 _ rfl
    have en25b : pu 25 [.bt 1 54 2, .sv 3 0 16] = none := hnr 25 _ rfl
    obtain ⟨r2, en2⟩ := hq25n 1 2 16
    obtain ⟨r3, en3⟩ := hq25n 1 3 16
    have e25u : hp 25 [.bt 1 54 2, .sv 3 0 16] [some (cl bC (List.replicate 16 0)), some [.bt 1 54 2, .gv 2 (16 * c) (1, 5)], some (cl bC (catV V c)), some (cl bC (V c))] = some (.tup [.val (nI 16), .val .nilIface], [some (cl bC (List.replicate 16 0)), some [.bt 1 54 2, .gv 4 (16 * (c + 1)) (1, 5)], some deadC, some (cl bC (V c)), some (cl bC (catV V (c + 1)))]) := by
      have h := hq25u [some (cl bC (List.replicate 16 0))] (catV V c) (V c) okZ (by omega)
      rw [show (catV V c ++ V c).length = 16 * (c + 1) by rw [List.length_append]; omega, hcl, hlc] at h; exact h
    refine Tr.skip ?_
    refine hK10 _ ?_
    clear hK10 K10
    refine Tr.kp [0, 2, 3, 7] ?_
    simp only [pk_cons, pk_nil, ↓A_cons, ↓reduceIte, Nat.reduceEqDiff]
    refine Tr.seqK fun K11 hK11 => ?_
    refine Tr.blk ?_
    refine Tr.seqK fun K12 hK12 => ?_
    refine Tr.rg hcx [1000009] _ [] rfl rfl rfl ?_
    simp -implicitDefEqProofs (maxSteps := 2000000) (disch := first | omega | (simp only [go_sem, List.length_append, List.length_drop, List.length_take, ofT_len] <;> omega) | decide) only [go_sem, ↓reduceIte, Nat.reduceEqDiff, reduceCtorEq, Nat.reduceLT, Nat.reduceBEq, Nat.reduceAdd, Nat.reduceSub, Nat.reduceMul, Nat.reduceMod, z0]
    refine hK12 _ ?_
    clear hK12 K12
    refine Tr.kp [0, 2, 3, 4, 7] ?_
    simp only [pk_cons, pk_nil, ↓A_cons, ↓reduceIte, Nat.reduceEqDiff]
    refine Tr.seqK fun K13 hK13 => ?_
    refine Tr.rg hcx [] _ [none] rfl rfl rfl ?_
    simp -implicitDefEqProofs (maxSteps := 2000000) (disch := first | omega | (simp only [go_sem, List.length_append, List.length_drop, List.length_take, ofT_len] <;> omega) | decide) only [go_sem, ↓reduceIte, Nat.reduceEqDiff, reduceCtorEq, Nat.reduceLT, Nat.reduceBEq, Nat.reduceAdd, Nat.reduceSub, Nat.reduceMul, Nat.reduceMod, z0, eV]
    refine hK13 _ ?_
    clear hK13 K13
    refine Tr.kp [0, 2, 3, 5, 7] ?_
    simp only [pk_cons, pk_nil, ↓A_cons, ↓reduceIte, Nat.reduceEqDiff]
    refine Tr.rg hcx [] _ [] rfl rfl rfl ?_
    simp -implicitDefEqProofs (maxSteps := 2000000) (disch := first | omega | (simp only [go_sem, List.length_append, List.length_drop, List.length_take, ofT_len] <;> omega) | decide) only [go_sem, ↓reduceIte, Nat.reduceEqDiff, reduceCtorEq, Nat.reduceLT, Nat.reduceBEq, Nat.reduceAdd, Nat.reduceSub, Nat.reduceMul, Nat.reduceMod, z0, en25, en25b, en2, en3, e25, e25u]
    refine hK11 _ ?_
    clear hK11 K11
    refine Tr.kp [0, 2, 3, 7] ?_
    simp only [pk_cons, pk_nil, ↓A_cons, ↓reduceIte, Nat.reduceEqDiff]
    refine Tr.rg hcx [] _ [] rfl rfl rfl ?_
    simp -implicitDefEqProofs (maxSteps := 2000000) (disch := first | omega | (simp only [go_sem, List.length_append, List.length_drop, List.length_take, ofT_len] <;> omega) | decide) only [go_sem, ↓reduceIte, Nat.reduceEqDiff, reduceCtorEq, Nat.reduceLT, Nat.reduceBEq, Nat.reduceAdd, Nat.reduceSub, Nat.reduceMul, Nat.reduceMod, z0]
    first
    | ((refine ⟨[0, 1, 4], ⟨by decide, by decide, by decide⟩, c + 1, ⟨by omega, by first | omega | (simp only []; omega)⟩, ?_, by simp only [mvH_eq, mvHa_nil, mvHa_cons, hget_0, hget_S, Option.map_some, Option.map_none, mvCs_cl, mvCs_f, mvCs_nil, mvCs_cons, mvC_val, mvC_top, mvC_sl, mvC_gv, mvC_sv, mvC_bp, mvC_agg, mvC_kp, mvGv_some, mvGv_none, mvSv_some, mvSv_none, mvBp_some, mvBp_none, loc_nil, loc_cons, ↓reduceIte, Nat.reduceEqDiff, reduceCtorEq, Nat.reduceAdd, Nat.zero_add, Nat.one_ne_zero, Nat.zero_ne_one, mvC_fn, mvC_bt, mvBt_some, mvBt_none, mvC_mp, mvMp_some, mvMp_none]; first | (rw [leafH_S (Nat.succ_ne_zero c), show catV V (c + 1) = V c by rw [z0o]; rfl, show 16 * (c + 1) = 16 by omega]; done) | (rw [leafH_S (Nat.succ_ne_zero c)]; done)⟩); (simp only [Le_nil, Le_cons, ↓A_cons, CLe_refl, CLe_top, CLe_full, CLe_nil, CLe_own, and_true, true_and, mvH_eq, mvHa_nil, mvHa_cons, hget_0, hget_S, Option.map_some, Option.map_none, mvCs_cl, mvCs_f, mvCs_nil, mvCs_cons, mvC_val, mvC_top, mvC_sl, mvC_gv, mvC_sv, mvC_bp, mvC_agg, mvC_kp, mvGv_some, mvGv_none, mvSv_some, mvSv_none, mvBp_some, mvBp_none, loc_nil, loc_cons, ↓reduceIte, Nat.reduceEqDiff, reduceCtorEq, Nat.reduceAdd, Nat.zero_add, Nat.one_ne_zero, Nat.zero_ne_one, mvC_fn, mvC_bt, mvBt_some, mvBt_none, mvC_mp, mvMp_some, mvMp_none]; all_goals (repeat' first | exact CLe.refl _ | exact True.intro | (with_reducible refine And.intro ?_ ?_))); (all_goals first | exact CLe.refl _ | (rw [hmv]; exact CLe.refl _)); (done))
   ·
    clear hT hF KT KF
    obtain rfl : c = 68 := by omega
    have hcl : (catV V 68).length = 16 * 68 := catV_len' 68 fun k hk => hl k (by omega)
    have en29 : pu 29 [.bt 1 54 2] = none := hnr 29 _ rfl
    have e29 : hp 29 [.bt 1 54 2] [some (cl bC (List.replicate 16 0)), some [.bt 1 54 2, .gv 2 1088 (1, 5)], some (cl bC (catV V 68)), none] = some (.val (str (catV V 68)), [some (cl bC (List.replicate 16 0)), some deadC, some deadC, none]) := by
      have h := hq29 [some (cl bC (List.replicate 16 0))] [none] (catV V 68) okZ okN ⟨(by intro e; rw [e] at hcl; cases hcl), by omega⟩
      rw [hcl] at h; exact h
    have e4 : pu 34 [.val (nI 2), sl sC .no [catV V 68]] = some (.agg (cl bC (ofT 2 [catV V 68]))) := h34 2 _ (inp_len1 _ _ (by omega))
    have hl2 := ofT_len 2 [catV V 68]
    have e6 : pu 34 [.val (nI 3), sl sC .no [ofT 2 [catV V 68]]] = some (.agg (cl bC (leafV V))) := h34 3 _ (inp_len1 _ _ (by omega))
    have ta := t16 hl2
    refine Tr.exit ?_
    refine hK3 _ ?_
    clear hK10 K10 hK3 K3
    refine Tr.kp [2, 3] ?_
    simp only [pk_cons, pk_nil, ↓A_cons, ↓reduceIte, Nat.reduceEqDiff]
    refine Tr.seqK fun K14 hK14 => ?_
    refine Tr.rg hcx [] _ [none] rfl rfl rfl ?_
    simp -implicitDefEqProofs (maxSteps := 2000000) (disch := first | omega | (simp only [go_sem, List.length_append, List.length_drop, List.length_take, ofT_len] <;> omega) | decide) only [go_sem, ↓reduceIte, Nat.reduceEqDiff, reduceCtorEq, Nat.reduceLT, Nat.reduceBEq, Nat.reduceAdd, Nat.reduceSub, Nat.reduceMul, Nat.reduceMod, z0, en29, e29, e4, lay1str', Nat.reduceMul]
    refine hK14 _ ?_
    clear hK14 K14
    refine Tr.kp [2, 6] ?_
    simp only [pk_cons, pk_nil, ↓A_cons, ↓reduceIte, Nat.reduceEqDiff]
    refine Tr.seqK fun K15 hK15 => ?_
    refine Tr.rg hcx [] _ [] rfl rfl rfl ?_
    simp -implicitDefEqProofs (maxSteps := 2000000) (disch := first | omega | (simp only [go_sem, List.length_append, List.length_drop, List.length_take, ofT_len] <;> omega) | decide) only [go_sem, ↓reduceIte, Nat.reduceEqDiff, reduceCtorEq, Nat.reduceLT, Nat.reduceBEq, Nat.reduceAdd, Nat.reduceSub, Nat.reduceMul, Nat.reduceMod, z0, e6, lay1str', ta]
    refine hK15 _ ?_
    clear hK15 K15
    refine Tr.kp [2] ?_
    simp only [pk_cons, pk_nil, ↓A_cons, ↓reduceIte, Nat.reduceEqDiff]
    refine Tr.ret ?_
    simp -implicitDefEqProofs (disch := first | omega | (simp only [go_sem, List.length_append, List.length_drop, List.length_take, ofT_len] <;> omega) | decide) only [go_sem, ↓reduceIte, Nat.reduceEqDiff, reduceCtorEq]
    all_goals (rfl)
end Go.Sx
namespace Go.Sx
open Go.RowKit
def EndsT (cx : Cx) (rs : List ResultVar) (c : C) (k : Nat) (h' : Hp) : Ex → St → Prop
  | .exit _, _ => False
  | _, st => resL cx st rs = some c ∧ st.h.take k = h'
theorem EndsT_r (cx : Cx) (rs : List ResultVar) (c : C) (k : Nat) (h' : Hp) (st : St) : EndsT cx rs c k h' .ret st = (resL cx st rs = some c ∧ st.h.take k = h') := rfl
def nrH (k : Nat) : Hp → Bool
  | [] => true
  | none :: l => nrH k l
  | some cells :: l => noRefs k cells && nrH k l
theorem nrH_get (k : Nat) : ∀ (h : Hp), nrH k h = true → ∀ (b : Nat) (cells : List C), h[b]? = some (some cells) → noRefs k cells = true
  | [], _, b, cells, hb => by simp at hb
  | o :: l, h, 0, cells, hb => by
    simp at hb; subst hb
    simp only [nrH, Bool.and_eq_true] at h; exact h.1
  | o :: l, h, b + 1, cells, hb => by
    refine nrH_get k l ?_ b cells (by simpa using hb)
    cases o with
    | none => exact h
    | some c => simp only [nrH, Bool.and_eq_true] at h; exact h.2
theorem nrH_nil (k : Nat) : nrH k [] = true := rfl
theorem nrH_some (k : Nat) (cells : List C) (l : Hp) : nrH k (some cells :: l) = (noRefs k cells && nrH k l) := rfl
theorem nrH_mem {k : Nat} {h : Hp} (hh : nrH k h = true) : ∀ o ∈ h, ∀ cells, o = some cells → noRefs k cells = true := fun o ho cells e => by
  subst e
  obtain ⟨b, hb⟩ := List.getElem?_of_mem ho
  exact nrH_get k h hh b cells hb
theorem FC.ofT {cx : Cx} {f : Nat} {fn : Func} {code : Code} {args : List C} {h h' : Hp} {c : C} {rs : List ResultVar} (hN : cx.N = fn.ntmps) (hf : cx.P.funcs[f]? = some fn) (hn : (fn.name == "runtime.NumGoroutine") = false) (hb : fn.body = some code)
    (hrs : fn.results = rs.toArray) (hlen : args.length ≤ fn.ntmps) (hc : noRef h.length c = true) (hh : nrH h.length h' = true) (hT : Tr cx h.length code ⟨A (ini 0 args), h⟩ (EndsT cx rs c h.length h')) : FC cx.P cx.gl f args h c h' := by
  refine FC.of hN hf hn hb hlen ?_
  refine Tr.weaken (fun t => CLe.init args t) (hT.mono fun x st q => ?_)
  have key : resL cx st rs = some c ∧ st.h.take h.length = h' → results cx fn st = some c ∧ ((st.h.take h.length = h' ∧ noRef h.length c = true ∧ ∀ (b : Nat) cells, b < h.length → st.h[b]? = some (some cells) → noRefs h.length cells = true) ∨ st.h = h') := fun q => by
    refine ⟨?_, .inl ⟨q.2, hc, fun b cells hb hx => nrH_get _ _ hh b cells ?_⟩⟩
    · rw [← q.1]
      unfold results
      rw [hrs]
      rcases rs with _ | ⟨r, _ | ⟨r2, rs⟩⟩ <;> rfl
    · rw [← q.2, List.getElem?_take, if_pos hb]; exact hx
  cases x with
  | exit k => exact q
  | normal => exact key q
  | ret => exact key q
attribute [go_sem] EndsT_r nrH_nil nrH_some
end Go.Sx
