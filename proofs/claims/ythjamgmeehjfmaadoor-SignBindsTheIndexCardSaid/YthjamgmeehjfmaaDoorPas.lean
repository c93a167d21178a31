/-
  Calls that only read boxes, which may hold functions with boxes: the callee is told all of their cells. And what follows.
-/
import Derived.Test.YthjamgmeehjfmaaDoorPar
import Derived.Test.YthjamgmeehjfmaaDoorPap
set_option linter.unusedSimpArgs false
set_option linter.unusedVariables false
namespace Go.Sx
open Go.RowKit
/-- Frozen through and through. -/
def frzD : Nat → Hp → C → C
  | 0, _, c => c
  | n + 1, h, .bp b off => (match h.at b with
    | some cells => .kp ((cells.drop off).map fun x => frzD n h x.noR)
    | none => .bp b off)
  | n + 1, h, .sv b off m => (match h.at b with
    | some cells => if off + m ≤ cells.length then .sl .no m (((cells.drop off).take m).map fun x => frzD n h x.noR) else .sv b off m
    | none => .sv b off m)
  | n + 1, h, .fn f xs => .fn f (xs.map fun x => frzD n h x)
  | _ + 1, _, c => c
theorem cellsD {G : Gh} {h : Hp} {w : World} (W : WorldOK G h w) (n : Nat) (ih : ∀ (c : C) (v : Value), Rep G c v → Rep (boxK G w) (frzD n h c) v) {b : Nat} {cells : List C} {blk : Nat} (hb : h.at b = some cells) (hμ : G.μ b = some blk) (off m : Nat) (hle : off + m ≤ cells.length) : RepK (boxK G w) blk off (((cells.drop off).take m).map fun x => frzD n h x.noR) := by
  obtain ⟨cs, e, ⟨fr, q2, hfr⟩, q0, q3, q4⟩ := W.bx hb hμ
  refine RepK.of_get fun i x hx => ?_
  rw [List.getElem?_map, List.getElem?_take] at hx
  split at hx
  · rw [List.getElem?_drop] at hx
    cases hc : cells[off + i]? with
    | none => rw [hc] at hx; cases hx
    | some y =>
      rw [hc] at hx
      simp only [Option.map_some, Option.some.injEq] at hx
      subst hx
      obtain ⟨u, hu, hr⟩ := q3.get (off + i) y hc
      have hu' := hu
      rw [List.getElem?_take] at hu'
      split at hu'
      rotate_left
      · cases hu'
      refine ⟨u, ?_, q4 u (List.mem_of_getElem? hu'), ih _ _ hr.noR⟩
      have hK : G.K blk (off + i) = none := (W.sep b blk hμ).1 _
      simp only [boxK, hK]
      rw [if_pos ⟨b, hμ⟩]
      exact cell_of q2 _ _ hu'
  · cases hx
theorem repL_map {G G' : Gh} {g : C → C} (ih : ∀ (c : C) (v : Value), Rep G c v → Rep G' (g c) v) : ∀ (az : List C) (vs : List Value), RepL G az vs → RepL G' (az.map g) vs
  | [], vs, r => by simpa [RepL] using r
  | c :: l, vs, r => by
    rw [List.map_cons]
    simp only [RepL] at r ⊢
    obtain ⟨v, vs', h1, h2, h3⟩ := r
    exact ⟨v, vs', h1, ih c v h2, repL_map ih l vs' h3⟩
theorem frzD_rep {G : Gh} {h : Hp} {w : World} (W : WorldOK G h w) : ∀ (n : Nat) (c : C) (v : Value), Rep G c v → Rep (boxK G w) (frzD n h c) v
  | 0, c, v, r => r.mono (boxK_le G w)
  | n + 1, c, v, r => by
    have ih := frzD_rep W n
    cases c with
    | sv b off m =>
      have r0 := r
      simp only [Rep] at r
      obtain ⟨a, cap, h1, h2, h3, h4⟩ := r
      cases hb : h.at b with
      | none => simp only [frzD, hb]; exact r0.mono (boxK_le G w)
      | some cells =>
        simp only [frzD, hb]
        split
        · rename_i hle
          simp only [Rep]
          refine ⟨a, cap, h1, h2, h3, by simp, ?_⟩
          by_cases hn : m = 0
          · left; subst hn; simp
          · right
            obtain ⟨blk, q1, q2⟩ := h4 hn
            exact ⟨blk, off, q2, cellsD W n ih hb q1 off m hle⟩
        · exact r0.mono (boxK_le G w)
    | bp b off =>
      have r0 := r
      simp only [Rep] at r
      obtain ⟨blk, h1, h2⟩ := r
      cases hb : h.at b with
      | none => simp only [frzD, hb]; exact r0.mono (boxK_le G w)
      | some cells =>
        simp only [frzD, hb, Rep]
        refine ⟨blk, off, h2, ?_⟩
        by_cases hle : off ≤ cells.length
        · have := cellsD W n ih hb h1 off (cells.length - off) (by omega)
          rwa [List.take_of_length_le (by simp)] at this
        · rw [List.drop_of_length_le (by omega)]; simp [RepK]
    | fn f xs =>
      simp only [Rep, frzD] at r ⊢
      obtain ⟨vs, h1, h2⟩ := r
      exact ⟨vs, h1, repL_map ih xs _ h2⟩
    | _ => exact r.mono (boxK_le G w)
theorem FC.freezeR {P : Program} {gl : Nat → C} {f : Nat} {args args' : List C} {c : C} {h : Hp} (hre : ∀ (G : Gh) (w : World) (vs : List Value), WorldOK G h w → RepL G args vs → RepL (boxK G w) args' vs) (hf : FC P gl f args' [] c []) (ha : noRefs 0 args' = true) (hg : ∀ g, noRef 0 (gl g) = true) (hfl : flat c = true) : FC P gl f args h c h := by
  obtain ⟨he, hf⟩ := hf
  refine ⟨he, fun G w vs W hTg hgl hr => ?_⟩
  have hn : ∀ b, Hp.at [] b = none := fun b => by simp [Hp.at]
  let G1 : Gh := { K := (boxK G w).K, μ := fun _ => none, T := fun _ => none }
  have le1 : (cutμ (boxK G w) 0).Le G1 := ⟨fun _ _ _ x => x, fun b k x => by simp [cutμ] at x, fun b k x => by simp [cutμ] at x⟩
  have known1 : ∀ blk off u, G1.K blk off = some u → w.cell? ⟨blk, off, none⟩ = some u := fun blk off u x => by
    have x' : (boxK G w).K blk off = some u := x
    simp only [boxK] at x'
    split at x'
    · rename_i u' hu; cases x'; exact W.known _ _ _ hu
    · split at x'
      · exact x'
      · cases x'
  refine Calls.mono (hf G1 w vs ⟨known1, (fun b cells x => by rw [hn] at x; cases x), (fun b blk x => by cases x), (fun b b' c c' blk _ _ x => by cases x), (fun b blk x => by cases x), (fun g p x => by cases x), (fun b cells off s n xs blk v x => by rw [hn] at x; cases x), (fun b z x => by cases x), (fun b l x => by simp [Hp.mp] at x), (fun b b' l l' blk x => by simp [Hp.mp] at x)⟩
    (fun g p x => by cases x) (fun g => (noRef_rep _ _ (hg g) ((hgl g).mono (boxK_le G w))).mono le1) ((noRef_repL _ _ ha (hre G w _ W hr)).mono le1)) ?_
  rintro e w' ⟨v, G2, rfl, rv, ro, W2, F⟩
  have old := fun g (hg : g < w.heap.size) => F.old g hg rfl (fun b x => by cases x)
  have hμlt : ∀ b blk, G.μ b = some blk → blk < w.heap.size := fun b blk x => by
    exact (W.dom b blk x).2
  classical
  let G3 : Gh := { K := fun blk o => if ∃ b, G.μ b = some blk then none else G2.K blk o, μ := G.μ, T := fun g => if g < w.heap.size then G.T g else none, σ := G.σ }
  have le13 : G.Le G3 := ⟨fun b o u x => by
    have hb : ¬ ∃ k, G.μ k = some b := fun ⟨k, hk⟩ => by rw [(W.sep k b hk).1 o] at x; cases x
    show (if ∃ k, G.μ k = some b then none else G2.K b o) = some u
    rw [if_neg hb]
    exact F.le.K b o u ((boxK_le G w).K b o u x), fun _ _ x => x, fun _ _ x => x⟩
  refine ⟨v, G3, rfl, flat_rep c v hfl rv, fun s n xs e => ?_, ⟨fun blk off u x => ?_, fun b cells hc => ?_, fun b blk x => ⟨(W.dom b blk x).1, Nat.lt_of_lt_of_le (W.dom b blk x).2 F.size⟩, W.inj, fun b blk x => ?_, fun g p x => ?_, fun b cells off s n xs blk v hc hx hm hv => ?_, fun b z hz => ?_, fun b l hb => (by obtain ⟨blk, es, clk, q1, q2, q3⟩ := W.mpo b l hb; exact ⟨blk, es, clk, q1, (old blk (hμlt b blk q1)).1.trans q2, q3.mono le13⟩), W.mpi⟩, F.os, F.tape, F.output, F.size, le13, fun g hg ht hm => ?_⟩
  · rw [e] at hfl; cases hfl
  · have x' : (if ∃ k, G.μ k = some blk then none else G2.K blk off) = some u := x
    split at x'
    · cases x'
    · exact W2.known _ _ _ x'
  · rcases W.box b cells hc with hE | ⟨blk, cs, e, q1, q2, q0, q3, q4⟩
    · exact .inl hE
    · exact .inr ⟨blk, cs, e, q1, by rw [(old blk (hμlt b blk q1)).1]; exact q2, q0, q3.mono le13, q4⟩
  · have hlt := hμlt b blk x
    refine ⟨fun o => ?_, ?_⟩
    · show (if ∃ k, G.μ k = some blk then none else G2.K blk o) = none
      rw [if_pos ⟨b, x⟩]
    · show (if blk < w.heap.size then G.T blk else none) = none
      rw [if_pos hlt]
      exact (W.sep b blk x).2
  · have x' : (if g < w.heap.size then G.T g else none) = some p := x
    split at x'
    · exact Nat.lt_of_lt_of_le (W.tlt g p x') F.size
    · cases x'
  · have hlt := hμlt b blk hm
    have hv' : w.cell? ⟨blk, off, none⟩ = some v := by
      rw [← hv]
      unfold World.cell?
      rw [(old blk hlt).1]
    rcases W.own b cells off s n xs blk v hc hx hm hv' with O | ⟨g, cap, cur, e, a1, a2, a3, a4, a5, a6⟩
    · exact .inl O
    · have hlt := W.tlt g _ a2
      refine .inr ⟨g, cap, cur, e, a1, ?_, (old g hlt).1.trans a3, a4, fun o ho => ?_, a6⟩
      · show (if g < w.heap.size then G.T g else none) = _
        rw [if_pos hlt]; exact a2
      · show (if ∃ k, G.μ k = some g then none else G2.K g o) = none
        have hng : ¬ ∃ k, G.μ k = some g := fun ⟨k, hk⟩ => a6 k hk
        rw [if_neg hng]
        have h1 : (boxK G w).K g o = none := by
          simp only [boxK, a5 o ho]
          rw [if_neg hng]
        exact ((old g hlt).2.2.2 o).trans h1
  · obtain ⟨blk, cs, e, fr, q1, q2, q3⟩ := W.siz b z hz
    exact ⟨blk, cs, e, fr, q1, (old blk (hμlt b blk q1)).1.trans q2, q3⟩
  · obtain ⟨b1, b2, b3, b4⟩ := old g hg
    refine ⟨b1, ?_, hm, fun o => ?_⟩
    · show (if g < w.heap.size then G.T g else none) = none
      rw [if_pos hg]; exact ht
    · have hng : ¬ ∃ k, G.μ k = some g := fun ⟨k, hk⟩ => hm k hk
      show (if ∃ k, G.μ k = some g then none else G2.K g o) = _
      rw [if_neg hng]
      refine (b4 o).trans ?_
      show (boxK G w).K g o = _
      simp only [boxK]
      cases G.K g o with
      | some u => rfl
      | none => simp only []; rw [if_neg hng]
/-- Calls that read boxes and change none, from calls that compute alone. -/
def frzHpD (n : Nat) (pu : Nat → List C → Option C) : Nat → List C → Hp → Option (C × Hp) := fun g xs h => frhQ (noRefs 0 (xs.map fun x => frzD n h x)) (pu g (xs.map fun x => frzD n h x)) h
theorem frzHpD_eq (n : Nat) (pu : Nat → List C → Option C) (g : Nat) (xs : List C) (h : Hp) : frzHpD n pu g xs h = frhQ (noRefs 0 (xs.map fun x => frzD n h x)) (pu g (xs.map fun x => frzD n h x)) h := rfl
theorem CxOK.frzHpD {P : Program} {gl : Nat → C} {pu : Nat → List C → Option C} {hp : Nat → List C → Hp → Option (C × Hp)} {N M : Nat} {gr gr' : Nat → Bool} {km : TypeId → Value → Bool} (n : Nat) (hcx : CxOK ⟨P, N, gl, pu, hp, gr, km⟩) : CxOK ⟨P, M, gl, pu, Sx.frzHpD n pu, gr', km⟩ := by
  refine ⟨hcx.glo, hcx.pu, fun g xs h c h' e => ?_, hcx.km⟩
  have e : frhQ (noRefs 0 (xs.map fun x => frzD n h x)) (pu g (xs.map fun x => frzD n h x)) h = some (c, h') := e
  unfold frhQ at e
  split at e
  · rename_i hn
    split at e
    · rename_i c2 hp2
      unfold frhR at e
      split at e
      · rename_i hfl
        cases e
        exact FC.freezeR (fun G w vs W r => repL_map (frzD_rep W n) xs vs r) (hcx.pu _ _ _ hp2 []) hn hcx.glo hfl
      · cases e
    · cases e
  · cases e
def fdB (n : Nat) (h : Hp) (b off : Nat) : Option (List C) → C
  | some cells => .kp ((cells.drop off).map fun x => frzD n h x.noR)
  | none => .bp b off
theorem fd_val (n : Nat) (h : Hp) (v : Value) : frzD n h (.val v) = .val v := by cases n <;> rfl
theorem fd_tsl {α : Type} (f : α → List C) (n : Nat) (h : Hp) (r : Rt) (l : List α) : frzD n h (sl f r l) = sl f r l := by cases n <;> rfl
theorem fd_fn (n : Nat) (h : Hp) (f : Nat) (xs : List C) : frzD (n + 1) h (.fn f xs) = .fn f (xs.map fun x => frzD n h x) := rfl
theorem fd_bp (n : Nat) (h : Hp) (b off : Nat) : frzD (n + 1) h (.bp b off) = fdB n h b off (h.at b) := by
  cases e : h.at b <;> simp only [frzD, fdB, e]
theorem fdB_some (n : Nat) (h : Hp) (b off : Nat) (cells : List C) : fdB n h b off (some cells) = .kp ((cells.drop off).map fun x => frzD n h x.noR) := rfl
end Go.Sx
namespace Go.Sx
open Go.RowKit Go.Proofs
noncomputable def cxD (gl : Nat → C) (M : Nat) (pu : Nat → List C → Option C) : Cx := ⟨Tryd.prog, M, gl, pu, Sx.frzHpD 4 pu, fun _ => false, fun _ _ => false⟩
theorem cxD_P (gl : Nat → C) (M : Nat) (pu : Nat → List C → Option C) : (cxD gl M pu).P = Tryd.prog := rfl
theorem cxD_N (gl : Nat → C) (M : Nat) (pu : Nat → List C → Option C) : (cxD gl M pu).N = M := rfl
theorem cxD_pu (gl : Nat → C) (M : Nat) (pu : Nat → List C → Option C) : (cxD gl M pu).pu = pu := rfl
theorem cxD_hp (gl : Nat → C) (M : Nat) (pu : Nat → List C → Option C) : (cxD gl M pu).hp = Sx.frzHpD 4 pu := rfl
theorem cxD_gr (gl : Nat → C) (M : Nat) (pu : Nat → List C → Option C) (d : Option Nat) : isG (cxD gl M pu) d = false := by cases d <;> rfl
theorem hMOD {gl : Nat → C} {M : Nat} {pu : Nat → List C → Option C} : (cxD gl M pu).P.follows .mixedOrders = true := hMO (gl := gl) (M := M) (pu := pu)
theorem CxOK.toD {gl : Nat → C} {M N : Nat} {pu : Nat → List C → Option C} (h : CxOK (cxP gl M pu)) : CxOK (cxD gl N pu) := CxOK.frzHpD 4 h
attribute [go_sem] cxD_P cxD_N cxD_pu cxD_hp cxD_gr frzHpD_eq frhQ_false frhQ_some frhR_true fd_val fd_tsl fd_fn fd_bp fdB_some
theorem i_shr (P : Program) (t : TypeId) (x n : Nat) (h : x < 9223372036854775808) (hn : n ≤ 64) : binPlan P .shr t (.val (nI x)) (.val (nI n)) = some (vp (.val (nI (x / 2 ^ n)))) := by
  rw [nI, nI, bin_int]
  have e : sbin .shr (.int .i64 (x : Int)) (.int .i64 (n : Int)) = some (.int .i64 ((x : Int).fdiv (2 ^ (min n 64)))) := by
    show (if (n : Int) < 0 then none else _) = _
    rw [if_neg (by omega)]
    rfl
  rw [e, nI]
  show some (vp (.val _)) = _
  congr 4
  rw [Nat.min_eq_left hn, Int.fdiv_eq_ediv_of_nonneg _ (Int.le_of_lt (Int.pow_pos (by decide)))]
  have ep : (2 : Int) ^ n = ((2 ^ n : Nat) : Int) := by rw [Int.natCast_pow]; rfl
  rw [ep, ← Int.natCast_ediv]
theorem i_and1 (P : Program) (t : TypeId) (x : Nat) (h : x < 9223372036854775808) : binPlan P .and t (.val (nI x)) (.val (nI 1)) = some (vp (.val (nI (x % 2)))) := by
  simp only [nI, bin_int]
  show some (vp (.val (.int .i64 (IntKind.wrap .i64 ((BitVec.ofInt 64 (x : Int) &&& BitVec.ofInt 64 ((1 : Nat) : Int)).toNat : Int))))) = _
  rw [BitVec.ofInt_natCast, BitVec.ofInt_natCast, BitVec.toNat_and, BitVec.toNat_ofNat, BitVec.toNat_ofNat, Nat.mod_eq_of_lt (show x < 2 ^ 64 by omega)]
  rw [show 1 % 2 ^ 64 = 1 from rfl, Nat.and_one_is_mod, wrap_i64 _ (by omega) (by omega)]
theorem fdB_none (n : Nat) (h : Hp) (b off : Nat) : fdB n h b off none = .bp b off := rfl
attribute [go_sem] fdB_none
end Go.Sx
namespace Go.Sx
open Go.RowKit Go.Proofs
end Go.Sx
namespace Go.Sx
open Go.RowKit Go.Proofs
set_option maxRecDepth 100000
set_option maxHeartbeats 8000000
end Go.Sx
namespace Go.Sx
open Go.RowKit Go.Proofs
set_option maxRecDepth 100000
set_option maxHeartbeats 8000000
end Go.Sx
namespace Go.Sx
open Go.RowKit Go.Proofs
set_option maxRecDepth 100000
set_option maxHeartbeats 8000000
end Go.Sx
namespace Go.Sx
open Go.RowKit Go.Proofs
set_option maxRecDepth 100000
set_option maxHeartbeats 8000000
end Go.Sx
namespace Go.Sx
theorem lt_le (m : Nat) : m < 256 ^ (le m).length := by
  induction m using Nat.strongRecOn with
  | _ m ih =>
    by_cases h : m = 0
    · subst h; rw [le_zero]; decide
    · have := ih (m / 256) (Nat.div_lt_self (by omega) (by decide))
      rw [le_pos m h, List.length_cons, Nat.pow_succ]
      omega
theorem acc_be (f : UInt8) : ∀ (k m : Nat), m < 256 ^ k → accF f ((be m k).map (· ^^^ f)) = m
  | 0, m, h => by
    have : m = 0 := by simpa using h
    subst this; rfl
  | k + 1, m, h => by
    have e : m = m / 256 * 256 + m % 256 := by omega
    have h2 : m / 256 < 256 ^ k := by rw [Nat.pow_succ] at h; exact Nat.div_lt_of_lt_mul (by omega)
    have h3 : m % 256 < 256 := Nat.mod_lt _ (by decide)
    conv => lhs; rw [e]
    rw [be_snoc _ _ _ h3, List.map_append, List.map_cons, List.map_nil, accF_snoc, acc_be f k _ h2, UInt8.xor_assoc, UInt8.xor_self, UInt8.xor_zero]
    have : (UInt8.ofNat (m % 256)).toNat = m % 256 := by show (m % 256) % 256 = m % 256; omega
    omega
theorem flip_wI (f : UInt8) (hf : f = 0 ∨ f = 255) (L : Nat) (h : L ≤ 8) : flipOf (UInt8.ofNat (128 + L) ^^^ f) = f := by
  have : ∀ L < 9, flipOf (UInt8.ofNat (128 + L) ^^^ 0) = 0 ∧ flipOf (UInt8.ofNat (128 + L) ^^^ 255) = 255 := by decide
  rcases hf with rfl | rfl
  · exact (this L (by omega)).1
  · exact (this L (by omega)).2
theorem getI_wI (m : Nat) (f : UInt8) (hf : f = 0 ∨ f = 255) (hm : m < 9223372036854775808) (t : List UInt8) : getI (wI m f ++ t) = (if f = 255 then -1 - (m : Int) else (m : Int), (le m).length + 1, 0) := by
  have hL : (le m).length ≤ 8 := le_len 8 m (by omega)
  have hfl := flip_wI f hf _ hL
  have hk : kOf (UInt8.ofNat (128 + (le m).length) ^^^ f) = (le m).length := by
    unfold kOf
    rw [hfl, UInt8.xor_assoc, UInt8.xor_self, UInt8.xor_zero]
    show (128 + (le m).length) % 256 - 128 = _
    omega
  have hbl : ((be m (le m).length).map (· ^^^ f)).length = (le m).length := by rw [List.length_map, be_len]
  have htk : ((be m (le m).length).map (· ^^^ f) ++ t).take (le m).length = (be m (le m).length).map (· ^^^ f) := by
    rw [List.take_append_of_le_length (by omega), List.take_of_length_le (by omega)]
  have hac : accF (flipOf (UInt8.ofNat (128 + (le m).length) ^^^ f)) (((be m (le m).length).map (· ^^^ f) ++ t).take (le m).length) = m := by
    rw [hfl, htk]; exact acc_be f _ m (lt_le m)
  have hrl : (le m).length ≤ ((be m (le m).length).map (· ^^^ f) ++ t).length := by rw [List.length_append]; omega
  have h3 := (canon hk hL hrl).1 (by rw [hac, htk, hfl]; rfl)
  have h128 := x128 (UInt8.ofNat (128 + (le m).length) ^^^ f)
  show getI ((UInt8.ofNat (128 + (le m).length) ^^^ f) :: ((be m (le m).length).map (· ^^^ f) ++ t)) = _
  rcases hf with rfl | rfl
  · have hx : ¬ (UInt8.ofNat (128 + (le m).length) ^^^ 0 : UInt8) < 128 := by
      intro hx
      have := hfl
      unfold flipOf at this
      rw [if_pos hx] at this
      exact absurd this (by decide)
    rw [getI_6 hk (by omega) (by rw [List.length_cons]; omega) h3 (by rw [hac]; omega) hx, hac]
    rfl
  · have hx : (UInt8.ofNat (128 + (le m).length) ^^^ 255 : UInt8) < 128 := by
      apply Classical.byContradiction
      intro hx
      have := hfl
      unfold flipOf at this
      rw [if_neg hx] at this
      exact absurd this (by decide)
    rw [getI_5 hk (by omega) (by rw [List.length_cons]; omega) h3 (by rw [hac]; omega) hx, hac]
    rfl
theorem wI_len (m : Nat) (f : UInt8) : (wI m f).length = (le m).length + 1 := by unfold wI; rw [List.length_cons, List.length_map, be_len]
theorem getI_wint (n : Int) (hn : -9223372036854775808 ≤ n ∧ n ≤ 9223372036854775807) (t : List UInt8) : getI (wint n ++ t) = (n, (wint n).length, 0) := by
  rcases Int.lt_or_le n 0 with h | h
  · obtain ⟨m, hm⟩ : ∃ m : Nat, n = -1 - (m : Int) := ⟨(-1 - n).toNat, by omega⟩
    subst hm
    have hL : (le m).length ≤ 8 := le_len 8 m (by omega)
    rw [wint_neg m hL, getI_wI m 255 (.inr rfl) (by omega), wI_len, if_pos rfl]
  · obtain ⟨m, hm⟩ : ∃ m : Nat, n = (m : Int) := ⟨n.toNat, by omega⟩
    subst hm
    rw [wint_pos, getI_wI m 0 (.inl rfl) (by omega), wI_len, if_neg (by decide)]
end Go.Sx
namespace Go.Sx
open Go.RowKit Go.Proofs
theorem advT_add (i c f : Nat) (v : List UInt8) (a : Nat) : ∀ n, advT i c (f + a) (advT i c f v a) n = advT i c f v (a + n)
  | 0 => rfl
  | n + 1 => by rw [advT, advT_add i c f v a n, ← Nat.add_assoc a n 1, advT, Nat.add_assoc f a n]
theorem at16_cat (f : Nat → List UInt8) (hf : ∀ c, (f c).length = 16) : ∀ (n : Nat) (t : List UInt8) (c : Nat), c < n → at16 (catV f n ++ t) c = f c
  | 0, t, c, h => absurd h (Nat.not_lt_zero c)
  | n + 1, t, c, h => by
    rw [catV, List.append_assoc]
    by_cases e : c < n
    · exact at16_cat f hf n (f n ++ t) c e
    · obtain rfl : c = n := by omega
      unfold at16
      rw [← catV_len hf c, List.drop_left, ← hf c, List.take_left]
def sgF (seed : List UInt8) (i : Nat) (D : List Nat) (c : Nat) : List UInt8 := advT i c 0 (staT seed i c) (gt D c)
def auF (seed : List UInt8) (i : Nat) (l : Nat) : List UInt8 := treeT seed l (sib (i / 2 ^ l))
theorem sgF_len (seed : List UInt8) (i : Nat) (D : List Nat) (c : Nat) : (sgF seed i D c).length = 16 := advT_len _ _ _ (staT_len _ _ _) _
theorem auF_len (seed : List UInt8) (i l : Nat) : (auF seed i l).length = 16 := treeT_len _ _ _
theorem sgR_cat (seed : List UInt8) (i : Nat) (D : List Nat) : ∀ n, sgR seed i D n = wint (i : Int) ++ catV (sgF seed i D) n
  | 0 => by rw [sgR, catV, List.append_nil]
  | n + 1 => by rw [sgR, sgR_cat seed i D n, catV, List.append_assoc]; rfl
theorem auR_cat (seed : List UInt8) (i : Nat) (S : List UInt8) : ∀ n, auR seed i S n = S ++ catV (auF seed i) n
  | 0 => by rw [auR, catV, List.append_nil]
  | n + 1 => by rw [auR, auR_cat seed i S n, catV, List.append_assoc]; rfl
/-- What stands behind the number in a signature. -/
def bodT (seed : List UInt8) (h i : Nat) (m : List UInt8) : List UInt8 := catV (sgF seed i (digT (msgT (treeT seed h 0) (i : Int) m))) 68 ++ catV (auF seed i) h
theorem sigT_eq (seed : List UInt8) (h i : Nat) (m : List UInt8) : sigT seed h i m = wint (i : Int) ++ bodT seed h i m := by
  unfold sigT bodT
  rw [auR_cat, sgR_cat, List.append_assoc]
theorem bodT_len (seed : List UInt8) (h i : Nat) (m : List UInt8) : (bodT seed h i m).length = (68 + h) * 16 := by
  unfold bodT
  rw [List.length_append, catV_len (sgF_len seed i _), catV_len (auF_len seed i)]; omega
theorem at16_lo (seed : List UInt8) (h i : Nat) (m : List UInt8) {c : Nat} (hc : c < 68) : at16 (bodT seed h i m) c = sgF seed i (digT (msgT (treeT seed h 0) (i : Int) m)) c :=
  at16_cat _ (sgF_len seed i _) 68 _ c hc
theorem at16_hi (seed : List UInt8) (h i : Nat) (m : List UInt8) {l : Nat} (hl : l < h) : at16 (bodT seed h i m) (68 + l) = auF seed i l := by
  have e := at16_cat (auF seed i) (auF_len seed i) h [] l hl
  rw [List.append_nil] at e
  rw [← e]
  unfold bodT at16
  have hlen := catV_len (sgF_len seed i (digT (msgT (treeT seed h 0) (i : Int) m))) 68
  rw [show 16 * (68 + l) = (catV (sgF seed i (digT (msgT (treeT seed h 0) (i : Int) m))) 68).length + 16 * l by rw [hlen]; omega, ← List.drop_drop, List.drop_left]
theorem endV_top (seed : List UInt8) (h i : Nat) (m : List UInt8) {c : Nat} (hc : c < 68) : endV i (digT (msgT (treeT seed h 0) (i : Int) m)) (bodT seed h i m) c = topT seed i c := by
  have hd := digT_lt (msgT (treeT seed h 0) (i : Int) m) c hc
  unfold endV
  rw [at16_lo seed h i m hc]
  unfold sgF topT
  have := advT_add i c 0 (staT seed i c) (gt (digT (msgT (treeT seed h 0) (i : Int) m)) c) (3 - gt (digT (msgT (treeT seed h 0) (i : Int) m)) c)
  rw [Nat.zero_add] at this
  rw [this, show gt (digT (msgT (treeT seed h 0) (i : Int) m)) c + (3 - gt (digT (msgT (treeT seed h 0) (i : Int) m)) c) = 3 by omega]
theorem up_tree (seed : List UInt8) (h i : Nat) (m : List UInt8) : ∀ l, l ≤ h → upR i (bodT seed h i m) (leafT seed i) l = treeT seed l (i / 2 ^ l)
  | 0, _ => by rw [upR, Nat.pow_zero, Nat.div_one]; rfl
  | l + 1, hl => by
    have ih := up_tree seed h i m l (by omega)
    have ha := at16_hi seed h i m (l := l) (by omega)
    have hj : i / 2 ^ (l + 1) = i / 2 ^ l / 2 := by rw [Nat.pow_succ, Nat.div_div_eq_div_mul]
    rw [hj]
    generalize hq : i / 2 ^ l = j at *
    rw [show treeT seed (l + 1) (j / 2) = nodT (treeT seed l (2 * (j / 2))) (treeT seed l (2 * (j / 2) + 1)) from rfl]
    unfold auF at ha
    rw [hq] at ha
    by_cases ho : j % 2 = 1
    · rw [up_T (by rw [hq]; exact ho), ih, ha, show sib j = 2 * (j / 2) by unfold sib; rw [if_pos ho]; omega]
      rw [show treeT seed l j = treeT seed l (2 * (j / 2) + 1) by rw [show 2 * (j / 2) + 1 = j by omega]]
    · rw [up_F (by rw [hq]; exact ho), ih, ha, show sib j = 2 * (j / 2) + 1 by unfold sib; rw [if_neg ho]; omega]
      rw [show treeT seed l j = treeT seed l (2 * (j / 2)) by rw [show 2 * (j / 2) = j by omega]]
theorem root_sig {seed : List UInt8} {h i : Nat} {m : List UInt8} (hi : i < 2 ^ h) : rootV (treeT seed h 0) h i m (bodT seed h i m) = treeT seed h 0 := by
  unfold rootV
  rw [leafV_congr (g := topT seed i) (fun c hc => endV_top seed h i m hc)]
  have := up_tree seed h i m h (Nat.le_refl _)
  rw [Nat.div_eq_of_lt hi] at this
  exact this
theorem getI_sig {seed : List UInt8} {h i : Nat} {m : List UInt8} (hi : i < 1000000) (t : List UInt8) : getI (sigT seed h i m ++ t) = ((i : Int), (wint (i : Int)).length, 0) := by
  rw [sigT_eq, List.append_assoc]
  exact getI_wint _ (by omega) _
/-- Verify accepts what Sign returns. -/
theorem ver_sign {seed : List UInt8} {h i : Nat} {m : List UInt8} (hh : h ≤ 6) (hi : i < 2 ^ h) (hm : ¬ 1048576 < m.length) : verT (treeT seed h 0) (h : Int) m (sigT seed h i m) = ((i : Int), 0) := by
  have h64 := pow_64 hh 0
  rw [Nat.sub_zero] at h64
  have hg := getI_sig (seed := seed) (h := h) (i := i) (m := m) (by omega) []
  rw [List.append_nil] at hg
  have hd : (sigT seed h i m).drop (wint (i : Int)).length = bodT seed h i m := by rw [sigT_eq, List.drop_left]
  rw [ver_z hh hm hg hi (by rw [hd, bodT_len]), hd, root_sig hi, if_pos rfl]
end Go.Sx
namespace Go.Sx
open Go.RowKit Go.Proofs
set_option maxRecDepth 100000
set_option maxHeartbeats 8000000
end Go.Sx
namespace Go.Sx
open Go.RowKit Go.Proofs
/-- A number is worked out before it is handed on. -/
def frc {α : Type} (n : Nat) (f : Nat → α) : α := Nat.rec (f 0) (fun k _ => f (k + 1)) n
theorem frc_eq {α : Type} (n : Nat) (f : Nat → α) : frc n f = f n := by cases n <;> rfl
def rrN (x n : Nat) : Nat := (x >>> n) ||| ((x <<< (32 - n)) % 4294967296)
def nxtN (w0 w1 w9 w14 : Nat) : Nat := (w0 + (rrN w1 7 ^^^ rrN w1 18 ^^^ (w1 >>> 3)) + w9 + (rrN w14 17 ^^^ rrN w14 19 ^^^ (w14 >>> 10))) % 4294967296
def t1N (k w e f g h : Nat) : Nat := h + (rrN e 6 ^^^ rrN e 11 ^^^ rrN e 25) + ((e &&& f) ^^^ ((4294967295 - e) &&& g)) + k + w
def t2N (a b c : Nat) : Nat := (rrN a 2 ^^^ rrN a 13 ^^^ rrN a 22) + ((a &&& b) ^^^ (a &&& c) ^^^ (b &&& c))
structure N8 where
  (a b c d e f g h : Nat)
def rN : List Nat → Nat → Nat → Nat → Nat → Nat → Nat → Nat → Nat → Nat → Nat → Nat → Nat → Nat → Nat → Nat → Nat → Nat → Nat → Nat → Nat → Nat → Nat → Nat → Nat → N8
  | [], _, _, _, _, _, _, _, _, _, _, _, _, _, _, _, _, a, b, c, d, e, f, g, h => ⟨a, b, c, d, e, f, g, h⟩
  | k :: ks, w0, w1, w2, w3, w4, w5, w6, w7, w8, w9, w10, w11, w12, w13, w14, w15, a, b, c, d, e, f, g, h =>
    frc (t1N k w0 e f g h) fun t1 => frc ((t1 + t2N a b c) % 4294967296) fun a' => frc ((d + t1) % 4294967296) fun e' => frc (nxtN w0 w1 w9 w14) fun w16 =>
      rN ks w1 w2 w3 w4 w5 w6 w7 w8 w9 w10 w11 w12 w13 w14 w15 w16 a' a b c e' e f g
theorem rrN_eq (x : BitVec 32) (n : Nat) : rrN x.toNat n = (rr x n).toNat := by
  unfold rrN rr
  rw [BitVec.toNat_or, BitVec.toNat_ushiftRight, BitVec.toNat_shiftLeft]
def nxtB (w0 w1 w9 w14 : BitVec 32) : BitVec 32 := w0 + (rr w1 7 ^^^ rr w1 18 ^^^ w1 >>> 3) + w9 + (rr w14 17 ^^^ rr w14 19 ^^^ w14 >>> 10)
theorem nxtN_eq (w0 w1 w9 w14 : BitVec 32) : nxtN w0.toNat w1.toNat w9.toNat w14.toNat = (nxtB w0 w1 w9 w14).toNat := by
  unfold nxtN nxtB
  simp only [rrN_eq, BitVec.toNat_add, BitVec.toNat_xor, BitVec.toNat_ushiftRight]
  omega
def T1 (k w : BitVec 32) (s : S8) : BitVec 32 := s.h + (rr s.e 6 ^^^ rr s.e 11 ^^^ rr s.e 25) + (s.e &&& s.f ^^^ ~~~s.e &&& s.g) + k + w
def T2 (s : S8) : BitVec 32 := (rr s.a 2 ^^^ rr s.a 13 ^^^ rr s.a 22) + (s.a &&& s.b ^^^ s.a &&& s.c ^^^ s.b &&& s.c)
theorem t1N_eq (k w : BitVec 32) (s : S8) : t1N k.toNat w.toNat s.e.toNat s.f.toNat s.g.toNat s.h.toNat % 4294967296 = (T1 k w s).toNat := by
  unfold t1N T1
  have hn : (~~~s.e).toNat = 4294967295 - s.e.toNat := by rw [BitVec.toNat_not]
  simp only [rrN_eq, BitVec.toNat_add, BitVec.toNat_xor, BitVec.toNat_and, hn]
  omega
theorem t2N_eq (s : S8) : t2N s.a.toNat s.b.toNat s.c.toNat % 4294967296 = (T2 s).toNat := by
  unfold t2N T2
  simp only [rrN_eq, BitVec.toNat_add, BitVec.toNat_xor, BitVec.toNat_and]
def S8.n (s : S8) : N8 := ⟨s.a.toNat, s.b.toNat, s.c.toNat, s.d.toNat, s.e.toNat, s.f.toNat, s.g.toNat, s.h.toNat⟩
/-- The words of the schedule, without end. -/
def wS (b : List UInt8) (t : Nat) : BitVec 32 := gt (sched b (t + 1)) t
theorem sched_gt (b : List UInt8) : ∀ n t, t < n → gt (sched b n) t = wS b t
  | 0, t, h => absurd h (Nat.not_lt_zero t)
  | n + 1, t, h => by
    by_cases e : t < n
    · rw [← sched_gt b n t e]
      conv => lhs; rw [sched]
      exact gt_left _ _ _ (by rw [sched_len]; exact e)
    · obtain rfl : t = n := by omega
      rfl
theorem wS_nxt (b : List UInt8) (t : Nat) : wS b (t + 16) = nxtB (wS b t) (wS b (t + 1)) (wS b (t + 9)) (wS b (t + 14)) := by
  have e : wS b (t + 16) = gt (sched b (t + 16) ++ [if t + 16 < 16 then word4 b (t + 16) else
      gt (sched b (t + 16)) (t + 16 - 16) + (rr (gt (sched b (t + 16)) (t + 16 - 15)) 7 ^^^ rr (gt (sched b (t + 16)) (t + 16 - 15)) 18 ^^^ gt (sched b (t + 16)) (t + 16 - 15) >>> 3) + gt (sched b (t + 16)) (t + 16 - 7) +
        (rr (gt (sched b (t + 16)) (t + 16 - 2)) 17 ^^^ rr (gt (sched b (t + 16)) (t + 16 - 2)) 19 ^^^ gt (sched b (t + 16)) (t + 16 - 2) >>> 10)]) (t + 16) := rfl
  rw [e, gt_mid _ _ _ _ (sched_len b (t + 16)), if_neg (by omega)]
  rw [sched_gt b _ _ (by omega), sched_gt b _ _ (by omega), sched_gt b _ _ (by omega), sched_gt b _ _ (by omega)]
  rw [show t + 16 - 16 = t by omega, show t + 16 - 15 = t + 1 by omega, show t + 16 - 7 = t + 9 by omega, show t + 16 - 2 = t + 14 by omega]
  rfl
def rdsW (b : List UInt8) (s : S8) : Nat → S8
  | 0 => s
  | t + 1 => rnd (gt kc t) (wS b t) (rdsW b s t)
theorem rounds_W (b : List UInt8) (s : S8) : ∀ t, t ≤ 64 → rounds (sched b 64) s t = rdsW b s t
  | 0, _ => rfl
  | t + 1, h => by rw [rounds, rdsW, rounds_W b s t (by omega), sched_gt b 64 t (by omega)]
theorem rN_W (b : List UInt8) (s : S8) : ∀ (c t : Nat), t + c = 64 → rN ((kc.drop t).map BitVec.toNat) (wS b t).toNat (wS b (t + 1)).toNat (wS b (t + 2)).toNat (wS b (t + 3)).toNat (wS b (t + 4)).toNat (wS b (t + 5)).toNat (wS b (t + 6)).toNat (wS b (t + 7)).toNat (wS b (t + 8)).toNat (wS b (t + 9)).toNat (wS b (t + 10)).toNat (wS b (t + 11)).toNat (wS b (t + 12)).toNat (wS b (t + 13)).toNat (wS b (t + 14)).toNat (wS b (t + 15)).toNat
    (rdsW b s t).a.toNat (rdsW b s t).b.toNat (rdsW b s t).c.toNat (rdsW b s t).d.toNat (rdsW b s t).e.toNat (rdsW b s t).f.toNat (rdsW b s t).g.toNat (rdsW b s t).h.toNat = (rdsW b s 64).n
  | 0, t, h => by
    obtain rfl : t = 64 := by omega
    have : kc.drop 64 = [] := rfl
    rw [this]; rfl
  | c + 1, t, h => by
    have hd : kc.drop t = gt kc t :: kc.drop (t + 1) := by
      have hl : t < kc.length := by rw [kc_len]; omega
      rw [List.drop_eq_getElem_cons hl]; simp [gt, List.getD, List.getElem?_eq_getElem hl]
    have ih := rN_W b s c (t + 1) (by omega)
    rw [hd, List.map_cons, rN]
    simp only [frc_eq]
    have e1 := t1N_eq (gt kc t) (wS b t) (rdsW b s t)
    have e2 := t2N_eq (rdsW b s t)
    have hr : rdsW b s (t + 1) = ⟨T1 (gt kc t) (wS b t) (rdsW b s t) + T2 (rdsW b s t), (rdsW b s t).a, (rdsW b s t).b, (rdsW b s t).c, (rdsW b s t).d + T1 (gt kc t) (wS b t) (rdsW b s t), (rdsW b s t).e, (rdsW b s t).f, (rdsW b s t).g⟩ := rfl
    have ha : (t1N (gt kc t).toNat (wS b t).toNat (rdsW b s t).e.toNat (rdsW b s t).f.toNat (rdsW b s t).g.toNat (rdsW b s t).h.toNat + t2N (rdsW b s t).a.toNat (rdsW b s t).b.toNat (rdsW b s t).c.toNat) % 4294967296 = (T1 (gt kc t) (wS b t) (rdsW b s t) + T2 (rdsW b s t)).toNat := by
      rw [BitVec.toNat_add, ← e1, ← e2]; omega
    have he : ((rdsW b s t).d.toNat + t1N (gt kc t).toNat (wS b t).toNat (rdsW b s t).e.toNat (rdsW b s t).f.toNat (rdsW b s t).g.toNat (rdsW b s t).h.toNat) % 4294967296 = ((rdsW b s t).d + T1 (gt kc t) (wS b t) (rdsW b s t)).toNat := by
      rw [BitVec.toNat_add, ← e1]; omega
    rw [ha, he, nxtN_eq, ← wS_nxt]
    rw [hr] at ih
    exact ih
end Go.Sx
namespace Go.Sx
open Go.RowKit Go.Proofs
def wordN (a b c d : Nat) : Nat := ((a <<< 24) % 4294967296) ||| ((b <<< 16) % 4294967296) ||| ((c <<< 8) % 4294967296) ||| d
def wordsN : List Nat → List Nat
  | a :: b :: c :: d :: r => wordN a b c d :: wordsN r
  | _ => []
def addN (s r : N8) : N8 :=
  frc ((s.a + r.a) % 4294967296) fun a => frc ((s.b + r.b) % 4294967296) fun b => frc ((s.c + r.c) % 4294967296) fun c => frc ((s.d + r.d) % 4294967296) fun d =>
  frc ((s.e + r.e) % 4294967296) fun e => frc ((s.f + r.f) % 4294967296) fun f => frc ((s.g + r.g) % 4294967296) fun g => frc ((s.h + r.h) % 4294967296) fun h => ⟨a, b, c, d, e, f, g, h⟩
def kN : List Nat := kc.map BitVec.toNat
def runN (s : N8) : List Nat → N8
  | [w0, w1, w2, w3, w4, w5, w6, w7, w8, w9, w10, w11, w12, w13, w14, w15] =>
    frc w0 fun w0 => frc w1 fun w1 => frc w2 fun w2 => frc w3 fun w3 => frc w4 fun w4 => frc w5 fun w5 => frc w6 fun w6 => frc w7 fun w7 =>
    frc w8 fun w8 => frc w9 fun w9 => frc w10 fun w10 => frc w11 fun w11 => frc w12 fun w12 => frc w13 fun w13 => frc w14 fun w14 => frc w15 fun w15 =>
    rN kN w0 w1 w2 w3 w4 w5 w6 w7 w8 w9 w10 w11 w12 w13 w14 w15 s.a s.b s.c s.d s.e s.f s.g s.h
  | _ => s
def compN (s : N8) (b : List Nat) : N8 := addN s (runN s (wordsN b))
theorem bw_nat (x : UInt8) : (bw x).toNat = x.toNat := by
  have hx : x.toNat < 256 := x.toNat_lt
  unfold bw
  rw [BitVec.toNat_setWidth]
  exact Nat.mod_eq_of_lt (show x.toNat < 2 ^ 32 by omega)
theorem word4_nat (b : List UInt8) (t : Nat) : (word4 b t).toNat = wordN (gt b (4 * t)).toNat (gt b (4 * t + 1)).toNat (gt b (4 * t + 2)).toNat (gt b (4 * t + 3)).toNat := by
  unfold word4 wordN
  simp only [BitVec.toNat_or, BitVec.toNat_shiftLeft, bw_nat]
theorem wordsN_eq : ∀ (n : Nat) (b : List UInt8), b.length = 4 * n → wordsN (b.map UInt8.toNat) = (List.range n).map fun t => (word4 b t).toNat
  | 0, b, h => by
    have : b = [] := List.length_eq_zero_iff.1 (by omega)
    subst this; rfl
  | n + 1, b, h => by
    match b, h with
    | x0 :: x1 :: x2 :: x3 :: r, h =>
      have ih := wordsN_eq n r (by simp only [List.length_cons] at h; omega)
      show wordsN (x0.toNat :: x1.toNat :: x2.toNat :: x3.toNat :: r.map UInt8.toNat) = _
      rw [wordsN, ih, List.range_succ_eq_map, List.map_cons, List.map_map, word4_nat]
      congr 1
theorem wS_lo (b : List UInt8) {t : Nat} (h : t < 16) : wS b t = word4 b t := by
  unfold wS
  rw [word_eq b t h, gt_mid _ _ _ _ (sched_len b t)]
theorem addN_eq (s r : S8) : addN s.n r.n = (s.add r).n := by
  unfold addN
  simp only [frc_eq]
  show N8.mk _ _ _ _ _ _ _ _ = N8.mk _ _ _ _ _ _ _ _
  congr 1
theorem runN_eq (s : S8) (b : List UInt8) : runN s.n [(wS b 0).toNat, (wS b 1).toNat, (wS b 2).toNat, (wS b 3).toNat, (wS b 4).toNat, (wS b 5).toNat, (wS b 6).toNat, (wS b 7).toNat, (wS b 8).toNat, (wS b 9).toNat, (wS b 10).toNat, (wS b 11).toNat, (wS b 12).toNat, (wS b 13).toNat, (wS b 14).toNat, (wS b 15).toNat] = (rdsW b s 64).n := by
  have hr := rN_W b s 64 0 rfl
  simp only [Nat.zero_add, List.drop_zero] at hr
  have h0 : rdsW b s 0 = s := rfl
  rw [h0] at hr
  unfold runN kN
  simp only [frc_eq]
  generalize rdsW b s 64 = q at *
  simp only [S8.n] at hr ⊢
  exact hr
theorem words_16 (b : List UInt8) : (List.range 16).map (fun t => (word4 b t).toNat) = [(wS b 0).toNat, (wS b 1).toNat, (wS b 2).toNat, (wS b 3).toNat, (wS b 4).toNat, (wS b 5).toNat, (wS b 6).toNat, (wS b 7).toNat, (wS b 8).toNat, (wS b 9).toNat, (wS b 10).toNat, (wS b 11).toNat, (wS b 12).toNat, (wS b 13).toNat, (wS b 14).toNat, (wS b 15).toNat] := by
  have hl : ∀ t ∈ List.range 16, (word4 b t).toNat = (wS b t).toNat := fun t ht => by rw [wS_lo b (List.mem_range.1 ht)]
  rw [List.map_congr_left hl]
  generalize wS b = f
  rfl
theorem compN_eq (s : S8) (b : List UInt8) (hb : b.length = 64) : compN s.n (b.map UInt8.toNat) = (comp s b).n := by
  unfold compN
  rw [wordsN_eq 16 b hb, words_16, runN_eq, ← rounds_W b s 64 (Nat.le_refl _)]
  exact addN_eq _ _
/-- The state behind some blocks. -/
def bkN (M : List Nat) : Nat → N8
  | 0 => IV.n
  | a + 1 => compN (bkN M a) ((M.drop (64 * a)).take 64)
theorem bkN_eq (M : List UInt8) : ∀ a, 64 * a ≤ M.length → bkN (M.map UInt8.toNat) a = (feed F0 (M.take (64 * a))).s.n
  | 0, _ => by rw [Nat.mul_zero, List.take_zero]; rfl
  | a + 1, h => by
    have ih := bkN_eq M a (by omega)
    rw [bkN, ih, blk_step M a (by omega), ← List.map_drop, ← List.map_take]
    exact compN_eq _ _ (by rw [List.length_take, List.length_drop]; omega)
def digN (s : N8) (n : Nat) : List UInt8 := (List.range n).map fun i => UInt8.ofNat (gt [s.a, s.b, s.c, s.d, s.e, s.f, s.g, s.h] (i / 4) >>> (24 - 8 * (i % 4)))
theorem dgb_nat (s : S8) {i : Nat} (h : i < 32) : dgb s i = UInt8.ofNat (gt [s.n.a, s.n.b, s.n.c, s.n.d, s.n.e, s.n.f, s.n.g, s.n.h] (i / 4) >>> (24 - 8 * (i % 4))) := by
  have e : gt [s.n.a, s.n.b, s.n.c, s.n.d, s.n.e, s.n.f, s.n.g, s.n.h] (i / 4) = (gt s.l (i / 4)).toNat := by
    rcases (show i / 4 = 0 ∨ i / 4 = 1 ∨ i / 4 = 2 ∨ i / 4 = 3 ∨ i / 4 = 4 ∨ i / 4 = 5 ∨ i / 4 = 6 ∨ i / 4 = 7 by omega) with q | q | q | q | q | q | q | q <;> rw [q] <;> rfl
  rw [e]
  apply UInt8.toNat_inj.1
  rw [UInt8.toNat_ofNat']
  show ((gt s.l (i / 4) >>> (24 - 8 * (i % 4))).setWidth 8).toNat = _
  rw [BitVec.toNat_setWidth, BitVec.toNat_ushiftRight]
theorem digN_eq (s : S8) {n : Nat} (h : n ≤ 32) : dig s n = digN s.n n := by
  unfold dig digN
  exact List.map_congr_left fun i hi => dgb_nat s (by have := List.mem_range.1 hi; omega)
/-- The hash, by numbers. -/
def shaN (b : List UInt8) : List UInt8 := digN (bkN ((b ++ pad b.length).map UInt8.toNat) ((b ++ pad b.length).length / 64)) 32
theorem shaN_eq (b : List UInt8) : sha b = shaN b := by
  obtain ⟨Q, hQ⟩ := padM_len b
  unfold shaN
  rw [sha_eq, bkN_eq _ _ (by rw [hQ]; omega), hQ, show 64 * Q / 64 = Q by omega, List.take_of_length_le (by omega), digN_eq _ (Nat.le_refl _)]
end Go.Sx
namespace Go.Sx
open Go.RowKit Go.Proofs
section
variable (H : List UInt8 → List UInt8)
def ofG (tag : Int) (parts : List (List UInt8)) : List UInt8 := (H (inp tag parts)).take 16
def advG (i c f : Nat) (v : List UInt8) : Nat → List UInt8
  | 0 => v
  | n + 1 => ofG H 1 [wN [i, c, f + n], advG i c f v n]
def hmG (key t : List UInt8) : List UInt8 := H (padk (keyOf key) 92 ++ H (padk (keyOf key) 54 ++ t))
def staG (seed : List UInt8) (i c : Nat) : List UInt8 := (hmG H seed (chn5 ++ wN [i, c])).take 16
def topG (seed : List UInt8) (i c : Nat) : List UInt8 := advG H i c 0 (staG H seed i c) 3
def leafG (f : Nat → List UInt8) : List UInt8 := ofG H 3 [ofG H 2 [catV f 68]]
end
theorem advG_eq (i c f : Nat) (v : List UInt8) : ∀ n, advG sha i c f v n = advT i c f v n
  | 0 => rfl
  | n + 1 => by rw [advG, advG_eq i c f v n]; rfl
theorem sha_N : sha = shaN := funext shaN_eq
theorem advN (i c f : Nat) (v : List UInt8) (n : Nat) : advT i c f v n = advG shaN i c f v n := by rw [← advG_eq, sha_N]
theorem staN (seed : List UInt8) (i c : Nat) : staT seed i c = staG shaN seed i c := by
  have : staT seed i c = staG sha seed i c := rfl
  rw [this, sha_N]
theorem topN (seed : List UInt8) (i c : Nat) : topT seed i c = topG shaN seed i c := by
  unfold topT topG; rw [advN, staN]
theorem leafN (f : Nat → List UInt8) : leafV f = leafG shaN f := by
  have : leafV f = leafG sha f := rfl
  rw [this, sha_N]
theorem ofN (tag : Int) (parts : List (List UInt8)) : ofT tag parts = ofG shaN tag parts := by
  have : ofT tag parts = ofG sha tag parts := rfl
  rw [this, sha_N]
theorem leafTN (seed : List UInt8) (i : Nat) : leafT seed i = leafG shaN (topG shaN seed i) := by
  unfold leafT; rw [leafN, show topT seed i = topG shaN seed i from funext (topN seed i)]
end Go.Sx
namespace Go.Sx
open Go.RowKit Go.Proofs
def seed5 : List UInt8 := List.replicate 32 5
theorem leaf50 : leafT seed5 0 = [80, 73, 45, 231, 176, 163, 176, 191, 50, 21, 175, 156, 94, 157, 129, 60] := by
  rw [leafTN]; decide +kernel
end Go.Sx
namespace Go.Sx
open Go.RowKit Go.Proofs
theorem leaf51 : leafT (List.replicate 32 5) 1 = [248, 13, 241, 199, 82, 0, 7, 175, 211, 9, 215, 170, 188, 253, 121, 229] := by
  rw [leafTN]; decide +kernel
end Go.Sx
namespace Go.Sx
open Go.RowKit Go.Proofs
def pub5 : List UInt8 := [31, 233, 193, 5, 43, 37, 86, 82, 86, 138, 196, 127, 177, 93, 124, 69]
theorem root5 : treeT seed5 1 0 = pub5 := by
  show nodT (leafT seed5 0) (leafT seed5 1) = pub5
  rw [leaf50, show leafT seed5 1 = _ from leaf51]
  unfold nodT
  rw [ofN]; decide +kernel
theorem msg5m : msgT pub5 1 [109] = [139, 49, 158, 214, 218, 149, 35, 105, 244, 17, 128, 141, 108, 115, 184, 138] := by
  unfold msgT; rw [ofN]; decide +kernel
theorem msg5z : msgT pub5 0 [109] = [93, 127, 84, 121, 72, 2, 126, 124, 204, 93, 73, 115, 236, 133, 242, 12] := by
  unfold msgT; rw [ofN]; decide +kernel
def dig5m : List Nat := [2, 0, 2, 3, 0, 3, 0, 1, 2, 1, 3, 2, 3, 1, 1, 2, 3, 1, 2, 2, 2, 1, 1, 1, 0, 2, 0, 3, 1, 2, 2, 1, 3, 3, 1, 0, 0, 1, 0, 1, 2, 0, 0, 0, 2, 0, 3, 1, 1, 2, 3, 0, 1, 3, 0, 3, 2, 3, 2, 0, 2, 0, 2, 2, 1, 2, 0, 3]
def dig5n : List Nat := [3, 2, 2, 1, 2, 2, 2, 1, 1, 3, 1, 2, 3, 0, 2, 1, 3, 1, 2, 0, 2, 1, 0, 0, 3, 3, 1, 2, 3, 0, 1, 3, 1, 2, 0, 1, 1, 0, 2, 3, 0, 0, 1, 0, 3, 2, 0, 1, 0, 2, 1, 3, 2, 3, 0, 2, 2, 2, 1, 3, 0, 1, 0, 2, 1, 2, 0, 2]
theorem dig5m_eq : digT (msgT pub5 1 [109]) = dig5m := by rw [msg5m]; decide +kernel
theorem dig5n_eq : digT (msgT pub5 1 [110]) = dig5n := by
  unfold msgT; rw [ofN]; decide +kernel
def endG (c : Nat) : List UInt8 := advG shaN 1 c (gt dig5n c) (advG shaN 1 c 0 (staG shaN (List.replicate 32 5) 1 c) (gt dig5m c)) (3 - gt dig5n c)
theorem wrong5 : leafG shaN endG = [147, 73, 31, 29, 228, 184, 90, 61, 164, 58, 106, 58, 115, 185, 176, 101] := by decide +kernel
end Go.Sx
namespace Go.Sx
open Go.RowKit Go.Proofs
theorem bod5_dig : digT (msgT (treeT seed5 1 0) ((1 : Nat) : Int) [109]) = dig5m := by rw [root5]; exact dig5m_eq
theorem end5 (c : Nat) (h : c < 68) : endV 1 (digT (msgT pub5 ((1 : Nat) : Int) [110])) (bodT seed5 1 1 [109]) c = endG c := by
  have e : digT (msgT pub5 ((1 : Nat) : Int) [110]) = dig5n := dig5n_eq
  unfold endV endG
  rw [e, at16_lo seed5 1 1 [109] h, bod5_dig]
  unfold sgF
  rw [advN, advN, staN]
  rfl
theorem root5w : rootV pub5 1 1 [110] (bodT seed5 1 1 [109]) ≠ pub5 := by
  unfold rootV
  rw [leafV_congr (g := endG) end5, leafN, wrong5, up_T (l := 0) (by decide)]
  have ha := at16_hi seed5 1 1 [109] (l := 0) (by decide)
  rw [ha]
  have hau : auF seed5 1 0 = leafT seed5 0 := rfl
  rw [hau, leaf50]
  unfold upR nodT
  rw [ofN]
  decide +kernel
theorem ver5w : verT pub5 1 [110] (sigT seed5 1 1 [109]) = (0, 19) := by
  have hg := getI_sig (seed := seed5) (h := 1) (i := 1) (m := [109]) (by decide) []
  rw [List.append_nil] at hg
  have hd : (sigT seed5 1 1 [109]).drop (wint ((1 : Nat) : Int)).length = bodT seed5 1 1 [109] := by rw [sigT_eq, List.drop_left]
  have := ver_z (p := pub5) (m := [110]) (k := 1) (i := 1) (by decide) (by decide) hg (by decide) (by rw [hd, bodT_len])
  rw [hd, if_neg root5w] at this
  exact this
theorem msg5_ne : msgT pub5 1 [109] ≠ msgT pub5 0 [109] := by rw [msg5m, msg5z]; decide
end Go.Sx
namespace Go.Sx
open Go.RowKit Go.Proofs
set_option maxRecDepth 100000
set_option maxHeartbeats 8000000
theorem X_fc18 {p : Prop} (e : p := by intro KZ hZ; simp -implicitDefEqProofs (disch := first | omega | (simp only [go_sem, lA, lD, lT, hp, hDl, ofT_len, nodT_len] <;> omega) | decide) only [go_sem, ↓reduceIte, Nat.reduceEqDiff, reduceCtorEq, Nat.reduceLT, Nat.reduceBEq, Nat.reduceAdd, Nat.one_mul, List.map_cons, List.map_nil, List.drop_zero, b1, b3, b4, b5, b6, y0, z0, hy]; exact hZ) : p := e
theorem Y_fc18 {p : Prop} (e : p := by intro KZ hZ; simp -implicitDefEqProofs (disch := first | omega | (simp only [go_sem, lA, lD, lT, hp, hDl, ofT_len, nodT_len] <;> omega) | decide) only [go_sem, ↓reduceIte, Nat.reduceEqDiff, reduceCtorEq, Nat.reduceLT, Nat.reduceBEq, Nat.reduceAdd, Nat.one_mul, List.map_cons, List.map_nil, List.drop_zero, b1, b3, b4, b5, b6, y0, z0, hy]; refine And.intro ?_ hZ; exact rfl) : p := e
theorem F_fc18 {p : Prop} (e : p := by simp -implicitDefEqProofs (disch := first | omega | (simp only [go_sem, lA, lD, lT, hp, hDl, ofT_len, nodT_len] <;> omega) | decide) only [go_sem, ↓reduceIte, Nat.reduceEqDiff, reduceCtorEq]; all_goals (first | (rw [ver_1 b1]; rfl) | (rw [ver_4 hk6 (by omega)]; rfl) | (rw [ver_e hk6 (by omega) hg b3]; rfl) | (rw [ver_2 hk6 (by omega) hg (by first | exact Or.inl b4 | exact Or.inr (Or.inl b5) | exact Or.inr (Or.inr b6))]; rfl) | (rw [ver_z hk6 (by omega) hg hik b6o, rootV, ← hD, if_pos z0]; rfl) | (rw [ver_z hk6 (by omega) hg hik b6o, rootV, ← hD, if_neg z0]; rfl))) : p := e
theorem fc18 {gl : Nat → C} {M : Nat} {pu : Nat → List C → Option C}  (hcx : CxOK (cxD gl M pu))  (h21 : ∀ h : Int, pu 21 [.val (.int .i64 h)] = some (.val (.bool (decide (0 ≤ h ∧ h ≤ 6))))) (h36 : ∀ b : List UInt8, b.length < 9223372036854775807 → pu 36 [sl bC .no b] = some (.tup [.val (.int .i64 (getI b).1), .val (nI (getI b).2.1), .val (nI (getI b).2.2)])) (h16 : ∀ (p : List UInt8) (i : Int) (m : List UInt8), p.length = 16 → (-9223372036854775808 ≤ i ∧ i ≤ 9223372036854775807) → m.length ≤ 1048576 → pu 16 [.agg (cl bC p), .val (.int .i64 i), .val (str m)] = some (.agg (cl bC (msgT p i m)))) (h10 : ∀ d : List UInt8, d.length = 16 → pu 10 [.agg (cl bC d)] = some (sl nC .no (digT d))) (h37 : ∀ (k : Nat) (r : List UInt8), 16 * k + 16 ≤ r.length ∧ r.length ≤ 1000000 → pu 37 [.val (nI k), .kp [sl bC .no r]] = some (.agg (cl bC (at16 r k)))) (h38 : ∀ (i : Nat) (D : List Nat) (r : List UInt8), i < 1000000 → D.length = 68 → (∀ c, c < 68 → gt D c < 4) → 1088 ≤ r.length ∧ r.length ≤ 1000000 → pu 38 [.fn 39 [.kp [.val (nI i)], .kp [sl nC .no D], .kp [.fn 37 [.kp [sl bC .no r]]]]] = some (.agg (cl bC (leafV (endV i D r))))) (h40 : ∀ a b : List UInt8, a.length = 16 → b.length = 16 → pu 40 [.agg (cl bC a), .agg (cl bC b)] = some (.agg (cl bC (nodT a b)))) (hno : ∀ (g : Nat) (xs : List C), refy xs = true → pu g xs = none) (hnr : ∀ (g : Nat) (xs : List C), noRefs 0 xs = false → pu g xs = none) (p : List UInt8) (h : Int) (m sg : List UInt8) (hp : p.length = 16) (hh : -9223372036854775808 ≤ h ∧ h ≤ 9223372036854775807) (hm : m.length ≤ 1000000000) (hsg : sg.length ≤ 900000) : FC Tryd.prog gl 18 [.agg (cl bC p), .val (.int .i64 h), .val (str m), .val (str sg)] [] (.tup [.val (.int .i64 (verT p h m sg).1), .val (nI (verT p h m sg).2)]) [] := by
 replace hcx := hcx.reN (M := 90)
 refine FC.ofA (cx := cxD gl 90 pu) (rs := [.tmp 8, .tmp 9]) rfl Tryd.func18 rfl rfl rfl (by simp only [List.length_cons, List.length_nil]; decide) (by simp only [go_sem]) ?_
 simp only [ini, go_sem]
 have b1 := True.intro
 have b3 := True.intro
 have b4 := True.intro
 have b5 := True.intro
 have b6 := True.intro
 have y0 := True.intro
 have z0 := True.intro
 have hy := True.intro
 have e36 := h36 sg (by omega)
 have hbd := getI_bd sg
 obtain ⟨x, n, e, hg⟩ : ∃ x n e, getI sg = (x, n, e) := ⟨_, _, _, rfl⟩
 rw [hg] at e36 hbd
 simp only [] at e36 hbd
 have hk0 := True.intro
 have hk7 := True.intro
 have hi0 := True.intro
 have hi2 := True.intro
 have hDl := True.intro
 have e21 := h21 h
 have en38 : pu 38 [.fn 39 [.bp 1 0, .bp 4 0, .bp 3 0]] = none := hnr 38 _ rfl
 refine Tr.w hcx [] _ [none] rfl rfl rfl ?_ X_fc18
 refine Tr.seqK fun K1 hK1 => ?_
 refine Tr.blk ?_
 by_cases b1 : 0 ≤ h ∧ h ≤ 6
 ·
  obtain ⟨k, rfl⟩ : ∃ k : Nat, h = (k : Int) := ⟨h.toNat, by omega⟩
  have hk6 : k ≤ 6 := by omega
  have hk0 : (k < 0) = False := by simp
  have hk7 : (6 < k) = False := eq_false (by omega)
  have hp64 := pow_64 hk6 0
  rw [Nat.sub_zero] at hp64
  replace e21 : pu 21 [.val (nI k)] = some (.val (.bool (decide (0 ≤ (k : Int) ∧ (k : Int) ≤ 6)))) := e21
  have hy := And.intro @e21 @b1
  refine Tr.w hcx [1000021] _ [] rfl rfl rfl ?_ X_fc18
  refine Tr.cF rfl ?_
  have hy := True.intro
  refine Tr.w hcx [1000025] _ [] rfl rfl rfl ?_ X_fc18
  refine Tr.cD rfl (fun hc22 => ?_) (fun hc22 => ?_)
  ·
   refine Tr.w hcx [] _ [] rfl rfl rfl ?_ X_fc18
   exact Tr.ret F_fc18
  refine Tr.skip ?_
  refine hK1 _ ?_
  have hy := @e36
  refine Tr.w hcx [1000031, 1000032] _ [none] rfl rfl rfl ?_ X_fc18
  refine Tr.k [1, 2, 3, 4, 10, 11, 12] ?_
  refine Tr.seqK fun K2 hK2 => ?_
  by_cases b3 : e = 0
  ·
   subst b3
   have b3 := True.intro
   have hy := True.intro
   refine Tr.w hcx [] _ [] rfl rfl rfl ?_ X_fc18
   refine Tr.cF rfl ?_
   refine Tr.skip ?_
   refine hK2 _ ?_
   have hnl : (sg.drop n).length = sg.length - n := List.length_drop ..
   have hnn := hbd.1
   refine Tr.w hcx [] _ [none] rfl rfl rfl ?_ X_fc18
   refine Tr.k [1, 2, 4, 10, 13] ?_
   refine Tr.seqK fun K3 hK3 => ?_
   by_cases b4 : x < ((0 : Nat) : Int)
   ·
    have hy := And.intro @i_shl (And.intro @hi0 @hi2)
    refine Tr.wD hcx hMOD [] [some 40, some 41, some 42, some 43, some 44, some 45, some 46, some 47, some 48, some 49, some 50, some 51, some 52, some 53, some 54, some 55] [] rfl rfl rfl rfl ?_ Y_fc18
    refine Tr.cT rfl ?_
    have hy := True.intro
    refine Tr.w hcx [] _ [] rfl rfl rfl ?_ X_fc18
    exact Tr.ret F_fc18
   by_cases b5 : ((2 ^ k : Nat) : Int) ≤ x
   ·
    skip
    have hy := And.intro @i_shl (And.intro @hi0 @hi2)
    refine Tr.wD hcx hMOD [] [some 40, some 41, some 42, some 43, some 44, some 45, some 46, some 47, some 48, some 49, some 50, some 51, some 52, some 53, some 54, some 55] [] rfl rfl rfl rfl ?_ Y_fc18
    refine Tr.cT rfl ?_
    have hy := True.intro
    refine Tr.w hcx [] _ [] rfl rfl rfl ?_ X_fc18
    exact Tr.ret F_fc18
   obtain ⟨i, rfl⟩ : ∃ i : Nat, x = (i : Int) := ⟨x.toNat, by omega⟩
   have hik : i < 2 ^ k := by omega
   have hi0 : (i < 0) = False := by simp
   have hi2 : (2 ^ k ≤ i) = False := eq_false (by omega)
   have hi64 : i < 64 := by omega
   by_cases b6 : (sg.drop n).length = (68 + k) * 16
   ·
    have b6o := b6
    have hml : m.length ≤ 1048576 := by omega
    have e16 : pu 16 [.agg (cl bC p), .val (nI i), .val (str m)] = some (.agg (cl bC (msgT p (i : Int) m))) := h16 _ (i : Int) m hp (by omega) hml
    have hmsl := msgT_len p (i : Int) m
    have e10 := h10 _ hmsl
    obtain ⟨D, hD⟩ : ∃ D, D = digT (msgT p (i : Int) m) := ⟨_, rfl⟩
    rw [← hD] at e10
    have hDl : D.length = 68 := by rw [hD]; exact digT_len _
    have hD4 : ∀ c, c < 68 → gt D c < 4 := fun c hc => by rw [hD]; exact digT_lt _ c hc
    have hat : ∀ c, c < 68 + k → (at16 (sg.drop n) c).length = 16 := fun c hc => at16_len (by omega)
    have hev : ∀ c, c < 68 → (endV i D (sg.drop n) c).length = 16 := fun c hc => endV_len (by omega)
    have hcv : ∀ a, a ≤ 68 → (catV (endV i D (sg.drop n)) a).length = 16 * a := fun a ha => catV_len' a fun c hc => hev c (by omega)
    have hlv := leafV_len (endV i D (sg.drop n))
    have hup := fun l => upR_len i (sg.drop n) hlv l
    have hnk := hnl
    have e38 := h38 i D (sg.drop n) (by omega) hDl hD4 ⟨by omega, by omega⟩
    have hy := And.intro @i_shl (And.intro @hi0 @hi2)
    refine Tr.wD hcx hMOD [] [some 40, some 41, some 42, some 43, some 44, some 45, some 46, some 47, some 48, some 49, some 50, some 51, some 52, some 53, some 54, some 55] [] rfl rfl rfl rfl ?_ Y_fc18
    refine Tr.cF rfl ?_
    refine Tr.skip ?_
    refine hK3 _ ?_
    have hy := True.intro
    refine Tr.w hcx [] _ [none] rfl rfl rfl ?_ X_fc18
    refine Tr.k [1, 2, 4, 10, 14] ?_
    have hy := And.intro @e16 @e10
    refine Tr.w hcx [] _ [none] rfl rfl rfl ?_ X_fc18
    have hy := And.intro @hno (And.intro @en38 @e38)
    refine Tr.w hcx [] _ [none] rfl rfl rfl ?_ X_fc18
    refine Tr.seqK fun K4 hK4 => ?_
    have hy := True.intro
    refine Tr.w hcx [] _ [] rfl rfl rfl ?_ X_fc18
    refine Tr.k [4, 10, 14, 16, 64, 65] ?_
    refine Tr.blk ?_
    refine Tr.loopI (α := Nat) (fun a => [(4, ?v4_1), (10, ?v10_1), (14, ?v14_1), (16, ?v16_1), (64, ?v64_1), (65, .val (nI a))]) (fun a => [some (cl bC p), some [.val (nI i)], some [sl bC .no (sg.drop n)], some [.fn 37 [.bp 2 0]], some [sl nC .no D], some (cl bC (upR i (sg.drop n) (leafV (endV i D (sg.drop n))) a))]) (fun a => a ≤ k) (fun a => k - a) (0) (Nat.zero_le _) ?le_1 ?hh_1 ?bd_1
    case hh_1 => exact rfl
    case le_1 => exact LT
    rintro l hl
    refine Tr.w hcx [] _ [] rfl rfl rfl ?_ X_fc18
    refine Tr.seqK fun K5 hK5 => ?_
    refine Tr.cD rfl (fun hc66 => ?_) (fun hc66 => ?_)
    ·
     have hil : i / 2 ^ l ≤ i := Nat.div_le_self _ _
     have ha := hat (68 + l) (by omega)
     have hul := hup l
     have e37 := h37 (68 + l) (sg.drop n) ⟨by omega, by omega⟩
     have e43 := h40 _ _ ha hul
     have e43b := h40 _ _ hul ha
     refine Tr.skip ?_
     refine hK5 _ ?_
     refine Tr.seqK fun K6 hK6 => ?_
     refine Tr.blk ?_
     refine Tr.w hcx [1000067] _ [] rfl rfl rfl ?_ X_fc18
     by_cases y0 : i / 2 ^ l % 2 = 1
     ·
      have hy := And.intro @i_shr @i_and1
      refine Tr.w hcx [] _ [] rfl rfl rfl ?_ X_fc18
      refine Tr.cT rfl ?_
      have hy := And.intro @hno (And.intro @e37 @e43)
      refine Tr.vD hcx hMOD [] _ [] rfl rfl rfl rfl ?_ Y_fc18
      refine hK6 _ ?_
      have hy := True.intro
      refine Tr.v hcx [] _ [] rfl rfl rfl ?_ X_fc18
      exact ⟨l + 1, ⟨by omega, O1⟩, LT, by dsimp only; first | rw [up_T y0] | rw [up_F y0] <;> rfl⟩
     have hy := And.intro @i_shr @i_and1
     refine Tr.w hcx [] _ [] rfl rfl rfl ?_ X_fc18
     refine Tr.cF rfl ?_
     have hy := And.intro @hno (And.intro @e37 @e43b)
     refine Tr.vD hcx hMOD [] _ [] rfl rfl rfl rfl ?_ Y_fc18
     refine hK6 _ ?_
     have hy := True.intro
     refine Tr.v hcx [] _ [] rfl rfl rfl ?_ X_fc18
     exact ⟨l + 1, ⟨by omega, O1⟩, LT, by dsimp only; first | rw [up_T y0] | rw [up_F y0] <;> rfl⟩
    obtain rfl : l = k := by omega
    have hul := hup l
    refine Tr.exit ?_
    refine hK4 _ ?_
    refine Tr.seqK fun K7 hK7 => ?_
    by_cases z0 : upR i (sg.drop n) (leafV (endV i D (sg.drop n))) l = p
    ·
     have hy := @eq23
     refine Tr.w hcx [] _ [] rfl rfl rfl ?_ X_fc18
     refine Tr.cF rfl ?_
     refine Tr.skip ?_
     refine hK7 _ ?_
     have hy := True.intro
     refine Tr.w hcx [1000089] _ [] rfl rfl rfl ?_ X_fc18
     exact Tr.ret F_fc18
    have hy := @eq23
    refine Tr.w hcx [] _ [] rfl rfl rfl ?_ X_fc18
    refine Tr.cT rfl ?_
    have hy := True.intro
    refine Tr.w hcx [] _ [] rfl rfl rfl ?_ X_fc18
    exact Tr.ret F_fc18
   skip
   have hy := And.intro @i_shl (And.intro @hi0 @hi2)
   refine Tr.wD hcx hMOD [] [some 40, some 41, some 42, some 43, some 44, some 45, some 46, some 47, some 48, some 49, some 50, some 51, some 52, some 53, some 54, some 55] [] rfl rfl rfl rfl ?_ Y_fc18
   refine Tr.cT rfl ?_
   have hy := True.intro
   refine Tr.w hcx [] _ [] rfl rfl rfl ?_ X_fc18
   exact Tr.ret F_fc18
  skip
  have hy := True.intro
  refine Tr.w hcx [] _ [] rfl rfl rfl ?_ X_fc18
  refine Tr.cT rfl ?_
  refine Tr.w hcx [1000035] _ [] rfl rfl rfl ?_ X_fc18
  exact Tr.ret F_fc18
 skip
 have hy := And.intro @e21 @b1
 refine Tr.w hcx [1000021] _ [] rfl rfl rfl ?_ X_fc18
 refine Tr.cT rfl ?_
 have hy := True.intro
 refine Tr.w hcx [] _ [] rfl rfl rfl ?_ X_fc18
 exact Tr.ret F_fc18
end Go.Sx
namespace Go.Sx
open Go.RowKit
theorem noR_bt (b t n : Nat) : (C.bt b t n).noR = .bt b t n := rfl
theorem share_bt (b t n : Nat) : (C.bt b t n).share = .bt b t n := rfl
theorem refBox_bt (b t n : Nat) (l : List C) : refBox (.bt b t n :: l) = refBox l := rfl
def mvBt (t n : Nat) : Option Nat → C
  | some j => .bt j t n
  | none => .top
theorem mvC_bt (ρ : List Nat) (b t n : Nat) : mvC ρ (.bt b t n) = mvBt t n (loc ρ 0 b) := by simp only [mvC]; cases loc ρ 0 b <;> rfl
theorem mvBt_some (t n j : Nat) : mvBt t n (some j) = .bt j t n := rfl
theorem mvBt_none (t n : Nat) : mvBt t n none = .top := rfl
def mvMp : Option Nat → C
  | some j => .mp j
  | none => .top
theorem mvC_mp (ρ : List Nat) (b : Nat) : mvC ρ (.mp b) = mvMp (loc ρ 0 b) := by simp only [mvC]; cases loc ρ 0 b <;> rfl
theorem mvMp_some (j : Nat) : mvMp (some j) = .mp j := rfl
theorem mvMp_none : mvMp none = .top := rfl
theorem fa_bt {P : Program} (a1 b1 : Nat) (z1 : List Value) (fs : Array Field) (b t n : Nat) (i : Nat) (fd : Field) (h : fs[i]? = some fd) : faP P (some ⟨.struct fs, a1, b1, z1⟩) (.bt b t n) i = faQ (td P fd.type) b fd.offset := by
  unfold faP faQ; simp only [h]; rfl
section
variable (cx : Cx) (apps : List Nat) (dsts : List (Option Nat)) (l : List Oper) (id' : Nat) (d : Option Nat) (e : List (Nat × C)) (h : Hp) (fs : List FP) (K : List FP → St → Prop)
def stXo (b off : Nat) (cells : List C) (o : Option C) : Prop := match o with
  | none => False
  | some x => run cx apps dsts l id' (mkE d x e) (h.set b (some (cells.set off x.noR))) ((3, b) :: fs) K
theorem stX_cells (b off : Nat) (cells : List C) : stX cx apps dsts l id' d e h fs K b off (some cells) = stXo cx apps dsts l id' d e h fs K b off cells (cells[off]?) := rfl
theorem stXo_some (b off : Nat) (cells : List C) (x : C) : stXo cx apps dsts l id' d e h fs K b off cells (some x) = run cx apps dsts l id' (mkE d x e) (h.set b (some (cells.set off x.noR))) ((3, b) :: fs) K := rfl
end
@[congr] theorem stXo_congr {cx : Cx} {apps : List Nat} {dsts : List (Option Nat)} {l : List Oper} {id' : Nat} {d : Option Nat} {e : List (Nat × C)} {h : Hp} {fs : List FP} {K : List FP → St → Prop} {b off : Nat} {cells : List C} {p p' : Option C} (hp : p = p') :
    stXo cx apps dsts l id' d e h fs K b off cells p = stXo cx apps dsts l id' d e h fs K b off cells p' := by rw [hp]
attribute [go_sem] stX_cells stXo_some
theorem live_bt (b t n : Nat) (r : List C) : liveC (some (.bt b t n :: r)) = some (.bt b t n :: r) := rfl
theorem noR_mp (b : Nat) : (C.mp b).noR = .mp b := rfl
attribute [go_sem] noR_mp
attribute [go_sem] live_bt noR_bt share_bt refBox_bt
end Go.Sx
