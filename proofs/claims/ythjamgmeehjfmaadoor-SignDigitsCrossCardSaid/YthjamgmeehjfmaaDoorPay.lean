/-
  Package sign: the calls that act on boxes, as tables. And what follows.
-/
import Derived.DeepKeys4
import Derived.MapViews
import Derived.Test.YthjamgmeehjfmaaDoorPax
import Derived.Test.YthjamgmeehjfmaaDoorPas
import Derived.Test.YthjamgmeehjfmaaDoorPap
import Derived.Test.YthjamgmeehjfmaaDoorPan
import Derived.Test.YthjamgmeehjfmaaDoorPao
import Derived.Test.YthjamgmeehjfmaaDoorPaq
import Derived.Test.YthjamgmeehjfmaaDoorPar
import Derived.Test.YthjamgmeehjfmaaDoorPat
set_option linter.unusedSimpArgs false
set_option linter.unusedVariables false
namespace Go.Sx
open Go.RowKit Go.Proofs
/-! The keys. -/
theorem sg_laid : laidOutB Tryd.prog = true := by kernel_rfl
theorem sg_row28 : (28 : TypeId) < Tryd.prog.types.size := of_decide_eq_true (by kernel_rfl)
theorem sg_u28 : Tryd.prog.underlying 28 = some (.array 2 3) := by kernel_rfl
theorem sg_u3 : Tryd.prog.underlying 3 = some (.int .i64) := by kernel_rfl
theorem sg_c28 : Tryd.prog.cellsOf 28 = 2 := by kernel_rfl
theorem sg_c3 : Tryd.prog.cellsOf 3 = 1 := by kernel_rfl
theorem sg_k28 : Tryd.prog.keyType 28 = true := by kernel_rfl
theorem sg_at28 : Tryd.prog.keyTypeAt 2 28 = true := by kernel_rfl
theorem sg_law : WideMaps.KeyLaw Tryd.prog 28 := deep_law_laid sg_laid (m := 2) (Nat.le_of_ble_eq_true rfl) sg_row28 sg_at28 (by rw [sg_u28])
theorem keyOf_G {P : Program} (hsz : 28 < P.types.size) (u28 : P.underlying 28 = some (.array 2 3)) (u3 : P.underlying 3 = some (.int .i64)) (c28 : P.cellsOf 28 = 2) (c3 : P.cellsOf 3 = 1) (k28 : P.keyType 28 = true)
    (a b : Int) (h : 0 ≤ a ∧ a < 1000000 ∧ 0 ≤ b ∧ b < 1000000) : ∃ l, Go.keyOf P 28 (.agg #[.int .i64 a, .int .i64 b]) = some l := by
  obtain ⟨n, hn⟩ : ∃ n, P.types.size + 1 = n + 2 := ⟨P.types.size - 1, by omega⟩
  have hmin : IntKind.i64.min = -9223372036854775808 := by decide
  have hmax : IntKind.i64.max = 9223372036854775807 := by decide
  have hw : ∀ x : Int, 0 ≤ x ∧ x < 1000000 → (Lit.int .i64 x).wf = true := fun x hx => by
    simp only [Lit.wf, hmin, hmax, Bool.and_eq_true, decide_eq_true_eq]; omega
  have h1 : ∀ x : Int, 0 ≤ x ∧ x < 1000000 → P.keyLits (n + 1) 3 [.int .i64 x] = some [.int .i64 x] := fun x hx => by
    simp only [Program.keyLits, u3, hw x hx, and_self, if_true]
  have hk : P.keyLits (n + 2) 28 [.int .i64 a, .int .i64 b] = some [.int .i64 a, .int .i64 b] := by
    have hr : List.range 2 = [0, 1] := rfl
    simp only [Program.keyLits, u28, u3, c28, c3, hr, hw a ⟨h.1, h.2.1⟩, hw b ⟨h.2.2.1, h.2.2.2⟩, List.length_cons, List.length_nil, Nat.mul_one, Nat.reduceAdd, List.mapM_cons, List.mapM_nil, List.drop_zero, List.drop_succ_cons, List.take_succ_cons, List.take_zero, and_self, Option.bind_eq_bind, Option.bind_some, Option.pure_def, Option.map_some, if_true, List.flatten_cons, List.flatten_nil, List.cons_append, List.nil_append]
  refine ⟨Lit.string (keyBytes [.int .i64 a, .int .i64 b]), ?_⟩
  unfold Go.keyOf
  rw [u28]
  have hf : (Value.agg #[.int .i64 a, .int .i64 b]).formed P 28 = true := by simp [Value.formed, u28, c28]
  simp only [k28, hf, Bool.and_self, if_true, hn]
  have hc : (Value.agg #[.int .i64 a, .int .i64 b]).cells.toList = [.int .i64 a, .int .i64 b] := rfl
  rw [hc, hk]; rfl
theorem keyOf_T (a b : Int) (h : 0 ≤ a ∧ a < 1000000 ∧ 0 ≤ b ∧ b < 1000000) : ∃ l, Go.keyOf Tryd.prog 28 (.agg #[.int .i64 a, .int .i64 b]) = some l := keyOf_G sg_row28 sg_u28 sg_u3 sg_c28 sg_c3 sg_k28 a b h
theorem km_ok (k : TypeId) (u : Value) (h : kmS k u = true) : Go.Maps.Keyed Tryd.prog k ∧ ∃ l, Go.keyOf Tryd.prog k u = some l := by
  unfold kmS at h
  simp only [Bool.and_eq_true, beq_iff_eq] at h
  obtain ⟨rfl, h⟩ := h
  refine ⟨Go.Maps.Keyed.of_law sg_law, ?_⟩
  split at h
  · rename_i vs
    split at h
    · rename_i a b hl
      have hv : vs = #[.int .i64 a, .int .i64 b] := by apply Array.ext'; rw [hl]
      subst hv
      exact keyOf_T a b (of_decide_eq_true h)
    · cases h
  · cases h
/-! Moves of rows. -/
mutual
theorem bk_flat (r : Nat → Nat) : ∀ c : C, flat c = true → bkC r c = c
  | .val _, _ => by simp only [bkC]
  | .agg xs, h => by simp only [flat] at h; simp only [bkC, bks_flat r xs h]
  | .tup xs, h => by simp only [flat] at h; simp only [bkC, bks_flat r xs h]
  | .top, h => by simp [flat] at h
  | .sl _ _ _, h => by simp [flat] at h
  | .sv _ _ _, h => by simp [flat] at h
  | .gv _ _ _, h => by simp [flat] at h
  | .bp _ _, h => by simp [flat] at h
  | .bt _ _ _, h => by simp [flat] at h
  | .mp _, h => by simp [flat] at h
  | .kp _, h => by simp [flat] at h
  | .fn _ _, h => by simp [flat] at h
theorem bks_flat (r : Nat → Nat) : ∀ l : List C, flats l = true → bkCs r l = l
  | [], _ => by simp only [bkCs]
  | x :: xs, h => by simp only [flats, Bool.and_eq_true] at h; simp only [bkCs, bk_flat r x h.1, bks_flat r xs h.2]
end
theorem bks_cl (r : Nat → Nat) {α : Type} (f : α → List C) [h : Fla f] (l : List α) : bkCs r (cl f l) = cl f l := bks_flat r _ (flats_cl f l)
theorem bk_sl (r : Nat → Nat) {α : Type} (f : α → List C) [h : Fla f] (q : Rt) (l : List α) : bkC r (sl f q l) = sl f q l := by unfold sl; simp only [bkC, bks_cl]
theorem live_clb (p : List UInt8) : (liveC (some (cl bC p))).isSome = true := by cases p <;> rfl
theorem cl_bC_inj {p q : List UInt8} (h : cl bC p = cl bC q) : p = q := cl_inj.1 h
theorem ents_inj (seed : List UInt8) : ∀ {M N : List (Nat × Nat)}, ents seed M = ents seed N → M = N
  | [], [], _ => rfl
  | [], _ :: _, h => by simp [ents] at h
  | _ :: _, [], h => by simp [ents] at h
  | (a, b) :: M, (a', b') :: N, h => by
    simp only [ents, List.cons.injEq, C.val.injEq] at h
    obtain ⟨h1, _, h3⟩ := h
    simp only [keyT, nI] at h1
    have h2 : a = a' ∧ b = b' := by
      injection h1 with h1
      have := congrArg Array.toList h1
      simp only [List.cons.injEq, Value.int.injEq, true_and, and_true] at this
      exact ⟨by exact_mod_cast this.1, by exact_mod_cast this.2⟩
    rw [h2.1, h2.2, ents_inj seed h3]
theorem mapC_inj {l m : List C} (h : mapC l = mapC m) : l = m := by
  simp only [mapC, List.cons.injEq, C.tup.injEq, true_and, and_true] at h; exact h
section
variable {gl : Nat → C} {pu : Nat → List C → Option C}
def hp0 : Nat → List C → Hp → Option (C × Hp) := fun _ _ _ => none
theorem q0 (hP : CxOK (cxP gl 0 pu)) (M : Nat) : CxOK (cxQ gl M pu hp0) := ⟨hP.glo, hP.pu, fun f a h c h' e => absurd e (by simp [cxQ, hp0]), fun k u h => km_ok k u h⟩
theorem enteredOf {f : Nat} {fn : Func} (h : Tryd.prog.funcs[f]? = some fn) (h1 : (fn.name == "runtime.NumGoroutine") = false) (h2 : fn.body.isNone = false) : Entered Tryd.prog f := ⟨fn, h, h1, h2⟩
abbrev D47 := {x : Bool × C × Hp // x.2.1.noOwn}
def enc47 (x : D47) : List C × Hp := ([.bt 0 54 2], some [bld0 x.1.1, x.1.2.1] :: x.1.2.2)
def out47 (x : D47) : C × Hp := (.tup [], some [.bt 0 54 2, x.1.2.1] :: x.1.2.2)
theorem ij47 (a b : D47) (h : enc47 a = enc47 b) : out47 a = out47 b := by
  obtain ⟨⟨f, x, r⟩, hx⟩ := a
  obtain ⟨⟨f', x', r'⟩, hx'⟩ := b
  simp only [enc47, Prod.mk.injEq, List.cons.injEq, Option.some.injEq, true_and, and_true] at h
  simp only [out47, h.1.2, h.2]
noncomputable def hp1 : Nat → List C → Hp → Option (C × Hp) := extH hp0 47 (tabH enc47 out47)
theorem q1 (hP : CxOK (cxP gl 0 pu)) (M : Nat) : CxOK (cxQ gl M pu hp1) := CxOK.extH (N := 0) (enc := enc47) (out := out47) (q0 hP 0) fun a => fc47 (enteredOf Tryd.func47 rfl rfl) a.1.1 a.1.2.1 a.2 a.1.2.2
theorem hq47 (f : Bool) (x : C) (rest : Hp) (hx : x.noOwn) : hp1 47 [.bt 0 54 2] (some [bld0 f, x] :: rest) = some (.tup [], some [.bt 0 54 2, x] :: rest) :=
  (extH_hit _ _).trans (tabH_enc ij47 ⟨(f, x, rest), hx⟩)
def OkH (h : Hp) : Prop := ∀ o ∈ h, okBox o = true
inductive D25 where
  | f (pre : Hp) (p : List UInt8) (h1 : OkH pre) (h2 : 0 < p.length ∧ p.length ≤ 1000000000)
  | u (pre : Hp) (l p : List UInt8) (h1 : OkH pre) (h2 : 0 < p.length ∧ p.length ≤ 1000000000 ∧ l.length ≤ 1000000000)
  | i (pre : Hp) (p : List UInt8) (h1 : OkH pre) (h2 : 0 < p.length ∧ p.length ≤ 1000000000)
  | n (b k m : Nat)
def enc25 : D25 → List C × Hp
  | .f pre p _ _ => ([.bt pre.length 54 2, .sv (pre.length + 1) 0 p.length], pre ++ [some [.val (.pointer none), .val (.slice none 0 0)], some (cl bC p)])
  | .u pre l p _ _ => ([.bt pre.length 54 2, .sv (pre.length + 2) 0 p.length], pre ++ [some [.bt pre.length 54 2, .gv (pre.length + 1) l.length (1, 5)], some (cl bC l), some (cl bC p)])
  | .i pre p _ _ => ([.bt pre.length 54 2, sl bC .no p], pre ++ [some [.val (.pointer none), .val (.slice none 0 0)]])
  | .n b k m => ([.bt b 54 2, .sv k 0 m], [])
def out25 : D25 → C × Hp
  | .f pre p _ _ => (.tup [.val (nI p.length), .val .nilIface], pre ++ [some [.bt pre.length 54 2, .gv (pre.length + 2) p.length (1, 5)], some (cl bC p), some (cl bC p)])
  | .u pre l p _ _ => (.tup [.val (nI p.length), .val .nilIface], pre ++ [some [.bt pre.length 54 2, .gv (pre.length + 3) (l ++ p).length (1, 5)], some deadC, some (cl bC p), some (cl bC (l ++ p))])
  | .i pre p _ _ => (.tup [.val (nI p.length), .val .nilIface], pre ++ [some [.bt pre.length 54 2, .gv (pre.length + 1) p.length (1, 5)], some (cl bC p)])
  | .n _ _ _ => (.top, [])
theorem ij25 (a b : D25) (h : enc25 a = enc25 b) : out25 a = out25 b := by
  cases a with
  | f pre p h1 h2 =>
    cases b with
    | f pre' p' h1' h2' =>
      simp only [enc25, Prod.mk.injEq, List.cons.injEq, C.bt.injEq, C.sv.injEq, and_true, true_and] at h
      obtain ⟨e1, e2⟩ := List.append_inj h.2 h.1.1
      simp only [List.cons.injEq, Option.some.injEq, true_and, and_true] at e2
      rw [out25, out25, e1, cl_bC_inj e2]
    | u pre' l' p' h1' h2' =>
      exfalso
      simp only [enc25, Prod.mk.injEq, List.cons.injEq, C.bt.injEq, C.sv.injEq, and_true, true_and] at h
      omega
    | i pre' p' h1' h2' => exfalso; simp [enc25, sl] at h
    | n b k m => exfalso; simp [enc25] at h
  | u pre l p h1 h2 =>
    cases b with
    | f pre' p' h1' h2' =>
      exfalso
      simp only [enc25, Prod.mk.injEq, List.cons.injEq, C.bt.injEq, C.sv.injEq, and_true, true_and] at h
      omega
    | u pre' l' p' h1' h2' =>
      simp only [enc25, Prod.mk.injEq, List.cons.injEq, C.bt.injEq, C.sv.injEq, and_true, true_and] at h
      obtain ⟨e1, e2⟩ := List.append_inj h.2 h.1.1
      simp only [List.cons.injEq, Option.some.injEq, true_and, and_true] at e2
      rw [out25, out25, e1, cl_bC_inj e2.2.1, cl_bC_inj e2.2.2]
    | i pre' p' h1' h2' => exfalso; simp [enc25, sl] at h
    | n b k m => exfalso; simp [enc25] at h
  | i pre p h1 h2 =>
    cases b with
    | f pre' p' h1' h2' => exfalso; simp [enc25, sl] at h
    | u pre' l' p' h1' h2' => exfalso; simp [enc25, sl] at h
    | i pre' p' h1' h2' =>
      simp only [enc25, Prod.mk.injEq, List.cons.injEq, C.bt.injEq, and_true, true_and] at h
      obtain ⟨e1, e2⟩ := List.append_inj h.2 h.1.1
      have e3 : cl bC p = cl bC p' := by
        have := h.1.2; unfold sl at this; injection this
      rw [out25, out25, e1, cl_bC_inj e3]
    | n b k m => exfalso; simp [enc25, sl] at h
  | n x k m =>
    cases b with
    | f pre' p' h1' h2' => exfalso; simp [enc25] at h
    | u pre' l' p' h1' h2' => exfalso; simp [enc25] at h
    | i pre' p' h1' h2' => exfalso; simp [enc25, sl] at h
    | n x' k' m' => rfl
noncomputable def hp2 : Nat → List C → Hp → Option (C × Hp) := extH hp1 25 (tabH enc25 out25)
theorem q2 (hP : CxOK (cxP gl 0 pu)) (hnr : ∀ (g : Nat) (xs : List C), noRefs 0 xs = false → pu g xs = none) (M : Nat) : CxOK (cxQ gl M pu hp2) := CxOK.extH (N := 0) (enc := enc25) (out := out25) (q1 hP 0) fun a => by
  have hg := (q1 hP 0).glo
  cases a with
  | f pre p h1 h2 =>
    have h := FC.pre (fc25f (q1 hP 0) hq47 hnr p h2.1 h2.2) pre h1 (by
      intro o ho; simp only [List.mem_cons, List.not_mem_nil, or_false] at ho
      rcases ho with rfl | rfl
      · rfl
      · rw [live_clb]; rfl) rfl (nrH_mem (by simp only [nrH_some, nrH_nil, noRefs_cl]; rfl)) (by simp) hg
    simp only [shH_cons, shH_nil, Option.map_some, bks_cl, bkCs, bkC, Nat.add_zero] at h
    exact h
  | u pre l p h1 h2 =>
    have h := FC.pre (fc25u (q1 hP 0) hq47 hnr l p h2.1 h2.2.1 h2.2.2) pre h1 (by
      intro o ho; simp only [List.mem_cons, List.not_mem_nil, or_false] at ho
      rcases ho with rfl | rfl | rfl
      · rfl
      · rw [live_clb]; rfl
      · rw [live_clb]; rfl) rfl (nrH_mem (by simp only [nrH_some, nrH_nil, noRefs_cl]; rfl)) (by simp) hg
    simp only [shH_cons, shH_nil, Option.map_some, bks_cl, bkCs, bkC, Nat.add_zero, deadC] at h
    exact h
  | i pre p h1 h2 =>
    have h := FC.pre (fc25a (q1 hP 0) hq47 hnr p h2.1 h2.2) pre h1 (by
      intro o ho; simp only [List.mem_cons, List.not_mem_nil, or_false] at ho
      subst ho; rfl) (by simp only [noRefs_cons, noRefs_nil, noRef_sl]; rfl) (nrH_mem (by simp only [nrH_some, nrH_nil]; rfl)) (by simp) hg
    simp only [shH_cons, shH_nil, Option.map_some, bks_cl, bk_sl, bkCs, bkC, Nat.add_zero] at h
    exact h
  | n b k m => exact FC.never (enteredOf Tryd.func25 rfl rfl) b 54 2 _ rfl
theorem hq25f (pre : Hp) (p : List UInt8) (h1 : ∀ o ∈ pre, okBox o = true) (h2 : 0 < p.length ∧ p.length ≤ 1000000000) : hp2 25 (enc25 (.f pre p h1 h2)).1 (enc25 (.f pre p h1 h2)).2 = some (out25 (.f pre p h1 h2)) := (extH_hit _ _).trans (tabH_enc ij25 (.f pre p h1 h2))
theorem hq25u (pre : Hp) (l p : List UInt8) (h1 : ∀ o ∈ pre, okBox o = true) (h2 : 0 < p.length ∧ p.length ≤ 1000000000 ∧ l.length ≤ 1000000000) : hp2 25 (enc25 (.u pre l p h1 h2)).1 (enc25 (.u pre l p h1 h2)).2 = some (out25 (.u pre l p h1 h2)) := (extH_hit _ _).trans (tabH_enc ij25 (.u pre l p h1 h2))
theorem hq25i (pre : Hp) (p : List UInt8) (h1 : ∀ o ∈ pre, okBox o = true) (h2 : 0 < p.length ∧ p.length ≤ 1000000000) : hp2 25 (enc25 (.i pre p h1 h2)).1 (enc25 (.i pre p h1 h2)).2 = some (out25 (.i pre p h1 h2)) := (extH_hit _ _).trans (tabH_enc ij25 (.i pre p h1 h2))
theorem hq25n (b k m : Nat) : ∃ r, hp2 25 [.bt b 54 2, .sv k 0 m] [] = some r := ⟨_, (extH_hit _ _).trans (tabH_enc ij25 (.n b k m))⟩
abbrev D29 := {x : Hp × Hp × List UInt8 // OkH x.1 ∧ OkH x.2.1 ∧ x.2.2 ≠ [] ∧ x.2.2.length ≤ 1000000000}
def enc29 (x : D29) : List C × Hp := ([.bt x.1.1.length 54 2], x.1.1 ++ ([some [.bt x.1.1.length 54 2, .gv (x.1.1.length + 1) x.1.2.2.length (1, 5)], some (cl bC x.1.2.2)] ++ x.1.2.1))
def out29 (x : D29) : C × Hp := (.val (str x.1.2.2), x.1.1 ++ ([some deadC, some deadC] ++ x.1.2.1))
theorem ij29 (a b : D29) (h : enc29 a = enc29 b) : out29 a = out29 b := by
  obtain ⟨⟨pre, suf, l⟩, h1, h2, h3⟩ := a
  obtain ⟨⟨pre', suf', l'⟩, h1', h2', h3'⟩ := b
  simp only [enc29, Prod.mk.injEq, List.cons.injEq, C.bt.injEq, and_true, true_and] at h
  obtain ⟨e1, e2⟩ := List.append_inj h.2 h.1
  simp only [List.cons_append, List.nil_append, List.cons.injEq, Option.some.injEq, true_and, and_true] at e2
  simp only [out29, e1, e2.2.2, cl_bC_inj e2.2.1]
noncomputable def hp3 : Nat → List C → Hp → Option (C × Hp) := extH hp2 29 (tabH enc29 out29)
theorem q3 (hP : CxOK (cxP gl 0 pu)) (hnr : ∀ (g : Nat) (xs : List C), noRefs 0 xs = false → pu g xs = none) (M : Nat) : CxOK (cxQ gl M pu hp3) := CxOK.extH (N := 0) (enc := enc29) (out := out29) (q2 hP hnr 0) fun a => by
  obtain ⟨⟨pre, suf, l⟩, h1, h2, h3, h4⟩ := a
  simp only at h3 h4
  have h := FC.mid (fc29 (gl := gl) (enteredOf Tryd.func29 rfl rfl) l h3 (by omega)) pre suf h1 h2 (by
      intro o ho; simp only [List.mem_cons, List.not_mem_nil, or_false] at ho
      rcases ho with rfl | rfl
      · rfl
      · rw [live_clb]; rfl) rfl (nrH_mem (by simp only [nrH_some, nrH_nil, noRefs_cl]; rfl)) (by simp) (q1 hP 0).glo
  simp only [shH_cons, shH_nil, Option.map_some, bks_cl, bkCs, bkC, Nat.add_zero, deadC, List.length_cons, List.length_nil, List.take_succ_cons, List.take_zero, List.drop_succ_cons, List.drop_zero, List.map_cons, List.map_nil, List.append_nil] at h
  exact h
theorem hq29 (pre suf : Hp) (l : List UInt8) (h1 : ∀ o ∈ pre, okBox o = true) (h2 : ∀ o ∈ suf, okBox o = true) (h3 : l ≠ [] ∧ l.length ≤ 1000000000) : hp3 29 [.bt pre.length 54 2] (pre ++ ([some [.bt pre.length 54 2, .gv (pre.length + 1) l.length (1, 5)], some (cl bC l)] ++ suf)) = some (.val (str l), pre ++ ([some deadC, some deadC] ++ suf)) :=
  (extH_hit _ _).trans (tabH_enc ij29 ⟨(pre, suf, l), h1, h2, h3⟩)
theorem hp3_25 (xs : List C) (h : Hp) : hp3 25 xs h = hp2 25 xs h := extH_miss (by decide) xs h
abbrev D22 := {x : Hp × List UInt8 // OkH x.1}
def enc22 (x : D22) : List C × Hp := ([.val (str x.1.2)], x.1.1)
def out22 (x : D22) : C × Hp := (.fn 44 [.kp [.mp x.1.1.length], .kp [.val (str x.1.2)], atK x.1.1.length x.1.2 8], x.1.1 ++ [some (mapC (ents x.1.2 []))])
theorem ij22 (a b : D22) (h : enc22 a = enc22 b) : out22 a = out22 b := by
  obtain ⟨⟨pre, s⟩, h1⟩ := a
  obtain ⟨⟨pre', s'⟩, h1'⟩ := b
  simp only [enc22, Prod.mk.injEq, List.cons.injEq, C.val.injEq, str_inj, and_true] at h
  simp only [out22, h.1, h.2]
noncomputable def hp4 : Nat → List C → Hp → Option (C × Hp) := extH hp3 22 (tabH enc22 out22)
theorem q4 (hP : CxOK (cxP gl 0 pu)) (hnr : ∀ (g : Nat) (xs : List C), noRefs 0 xs = false → pu g xs = none) (M : Nat) : CxOK (cxQ gl M pu hp4) := CxOK.extH (N := 0) (enc := enc22) (out := out22) (q3 hP hnr 0) fun a => by
  obtain ⟨⟨pre, s⟩, h1⟩ := a
  have h := FC.pre (fc22n (q3 hP hnr 0) s) pre h1 (by intro o ho; cases ho) rfl (by intro o ho; cases ho) (by simp) (q1 hP 0).glo
  simp only [shH_cons, shH_nil, Option.map_some, bkCs, bkC, Nat.add_zero, List.append_nil, atK_bk, mapC] at h
  exact h
theorem hq22 (pre : Hp) (seed : List UInt8) (h1 : ∀ o ∈ pre, okBox o = true) : hp4 22 [.val (str seed)] pre = some (.fn 44 [.kp [.mp pre.length], .kp [.val (str seed)], atK pre.length seed 8], pre ++ [some (mapC (ents seed []))]) :=
  (extH_hit _ _).trans (tabH_enc ij22 ⟨(pre, seed), h1⟩)
structure A44 where
  pre : Hp
  suf : Hp
  seed : List UInt8
  l : Nat
  k : Nat
  d : Nat
  M : List (Nat × Nat)
abbrev D44 (L : Nat) := {x : A44 // OkH x.pre ∧ OkH x.suf ∧ x.seed.length ≤ 1000000 ∧ OkM x.M ∧ (x.k + 1) * 2 ^ x.l ≤ 1000000 ∧ x.l < 7 ∧ x.l ≤ x.d ∧ x.l < L}
def enc44 (L : Nat) (x : D44 L) : List C × Hp := ([.val (nI x.1.l), .val (nI x.1.k), .kp [.mp x.1.pre.length], .kp [.val (str x.1.seed)], atK x.1.pre.length x.1.seed x.1.d], x.1.pre ++ ([some (mapC (ents x.1.seed x.1.M))] ++ x.1.suf))
def out44 (L : Nat) (x : D44 L) : C × Hp := (.agg (cl bC (treeT x.1.seed x.1.l x.1.k)), x.1.pre ++ ([some (mapC (ents x.1.seed (vis x.1.l x.1.k x.1.M)))] ++ x.1.suf))
theorem ij44 (L : Nat) (a b : D44 L) (h : enc44 L a = enc44 L b) : out44 L a = out44 L b := by
  obtain ⟨⟨pre, suf, seed, l, k, d, M⟩, h1⟩ := a
  obtain ⟨⟨pre', suf', seed', l', k', d', M'⟩, h1'⟩ := b
  simp only [enc44, Prod.mk.injEq, List.cons.injEq, C.val.injEq, C.kp.injEq, C.mp.injEq, str_inj, nI_inj, and_true] at h
  obtain ⟨⟨e1, e2, e3, e4, _⟩, e5⟩ := h
  obtain ⟨f1, f2⟩ := List.append_inj e5 e3
  simp only [List.cons_append, List.nil_append, List.cons.injEq, Option.some.injEq] at f2
  subst e4
  have := ents_inj seed (mapC_inj f2.1)
  simp only [out44, e1, e2, f1, f2.2, this]
noncomputable def hp5 (L : Nat) : Nat → List C → Hp → Option (C × Hp) := extH hp4 44 (tabH (enc44 L) (out44 L))
theorem hq44 (L : Nat) (pre suf : Hp) (seed : List UInt8) (l k d : Nat) (M : List (Nat × Nat)) (h1 : ∀ o ∈ pre, okBox o = true) (h2 : ∀ o ∈ suf, okBox o = true) (h3 : seed.length ≤ 1000000) (h4 : OkM M) (h5 : (k + 1) * 2 ^ l ≤ 1000000) (h6 : l < 7) (h7 : l ≤ d) (h8 : l < L) :
    hp5 L 44 [.val (nI l), .val (nI k), .kp [.mp pre.length], .kp [.val (str seed)], atK pre.length seed d] (pre ++ ([some (mapC (ents seed M))] ++ suf)) = some (.agg (cl bC (treeT seed l k)), pre ++ ([some (mapC (ents seed (vis l k M)))] ++ suf)) :=
  (extH_hit _ _).trans (tabH_enc (ij44 L) ⟨⟨pre, suf, seed, l, k, d, M⟩, h1, h2, h3, h4, h5, h6, h7, h8⟩)
theorem q5 (hP : CxOK (cxP gl 0 pu)) (hnr : ∀ (g : Nat) (xs : List C), noRefs 0 xs = false → pu g xs = none)
    (h38 : ∀ (seed : List UInt8) (k : Nat), seed.length ≤ 1000000 → k < 1000000 → pu 38 [.fn 45 [.kp [.val (nI k)], .kp [.val (str seed)]]] = some (.agg (cl bC (leafT seed k))))
    (h40 : ∀ a b : List UInt8, a.length = 16 → b.length = 16 → pu 40 [.agg (cl bC a), .agg (cl bC b)] = some (.agg (cl bC (nodT a b)))) : ∀ (L M : Nat), CxOK (cxQ gl M pu (hp5 L))
  | L, M0 => CxOK.extH (N := 0) (enc := enc44 L) (out := out44 L) (q4 hP hnr 0) fun a => by
    obtain ⟨⟨pre, suf, seed, l, k, d, M⟩, h1, h2, h3, h4, h5, h6, h7, h8⟩ := a
    simp only at h1 h2 h3 h4 h5 h6 h7 h8
    have small : FC Tryd.prog gl 44 [.val (nI l), .val (nI k), .kp [.mp 0], .kp [.val (str seed)], atK 0 seed d] [some (mapC (ents seed M))] (.agg (cl bC (treeT seed l k))) [some (mapC (ents seed (vis l k M)))] := by
      cases l with
      | zero => exact fc44z (q4 hP hnr 0) seed d k M h4 (by have := bd_lk h5; exact this.2) h3 hnr h38
      | succ l =>
        obtain ⟨d', rfl⟩ : ∃ d', d = d' + 1 := ⟨d - 1, by omega⟩
        cases L with
        | zero => omega
        | succ L =>
          exact fc44s (q5 hP hnr h38 h40 L 0) seed l d' k M h4 ⟨h5, by omega⟩ h3 hnr (fun M k suf hM hk hs => hq44 L [] suf seed l k d' M (by intro o ho; cases ho) hs h3 hM hk (by omega) (by omega) (by omega)) h40
    have h := FC.mid small pre suf h1 h2 (by
      intro o ho; simp only [List.mem_cons, List.not_mem_nil, or_false] at ho
      subst ho; rfl) (by simp [noRefs, noRef, atK_nr]) (nrH_mem (rowT_nr seed M)) (by simp) (q1 hP 0).glo
    simp only [shH_cons, shH_nil, Option.map_some, bks_cl, bkCs, bkC, Nat.add_zero, List.length_cons, List.length_nil, List.take_succ_cons, List.take_zero, List.drop_succ_cons, List.drop_zero, List.map_cons, List.map_nil, List.append_nil, atK_bk, bks_flat _ _ (mapC_fl _ _)] at h
    exact h
theorem hp5_miss (L : Nat) {g : Nat} (n : g ≠ 44) (n2 : g ≠ 22) (xs : List C) (h : Hp) : hp5 L g xs h = hp3 g xs h := (extH_miss n xs h).trans (extH_miss n2 xs h)
theorem hp5_25 (L : Nat) (xs : List C) (h : Hp) : hp5 L 25 xs h = hp2 25 xs h := (hp5_miss L (by decide) (by decide) xs h).trans (hp3_25 xs h)
theorem hp5_22 (L : Nat) (xs : List C) (h : Hp) : hp5 L 22 xs h = hp4 22 xs h := extH_miss (by decide) xs h
end
end Go.Sx
namespace Go.Sx
open Go.RowKit Go.Proofs
end Go.Sx
namespace Go.Sx
open Go.RowKit Go.Proofs
theorem hnr_ext {pu : Nat → List C → Option C} (hnr : ∀ f xs, noRefs 0 xs = false → pu f xs = none) {α : Type} {enc : α → List C} {out : α → C} {f : Nat} (he : ∀ a, noRefs 0 (enc a) = true) : ∀ g xs, noRefs 0 xs = false → Sx.ext pu f (tabOf enc out) g xs = none := fun g xs hr => by
  by_cases hgf : g = f
  · subst hgf
    rw [ext_hit]
    cases hq : tabOf enc out xs with
    | none => rfl
    | some c =>
      obtain ⟨a, rfl, _⟩ := tabOf_some hq
      rw [he a] at hr; cases hr
  · rw [ext_miss hgf]; exact hnr g xs hr
theorem noRef_fnQ (k f : Nat) (xs : List C) : noRef k (.fn f xs) = noRefs k xs := rfl
theorem fc26 {gl : Nat → C} {M : Nat} {pu : Nat → List C → Option C} (hcx : CxOK (cxP gl M pu)) (n : Int) (hn : -9223372036854775808 ≤ n ∧ n ≤ 9223372036854775807) : FC Tryd.prog gl 26 [.val (.int .i64 n)] [] (sl bC (.own 1) (wint n)) [] := by
  by_cases h : 0 ≤ n
  · obtain ⟨m, rfl⟩ : ∃ m : Nat, n = (m : Int) := ⟨n.toNat, by omega⟩
    rw [wint_pos]; exact fc26p hcx m (by omega)
  · obtain ⟨m, rfl⟩ : ∃ m : Nat, n = -1 - (m : Int) := ⟨(-1 - n).toNat, by omega⟩
    rw [wint_neg _ (le_len 8 m (by omega))]; exact fc26n hcx m (by omega)
section
variable {gl : Nat → C} {M : Nat} {pu : Nat → List C → Option C}
theorem fc38a (hcx : CxOK (cxQ gl M pu hp3)) (h34 : ∀ (tag : Int) (parts : List (List UInt8)), (inp tag parts).length < 1099511627776 → pu 34 [.val (.int .i64 tag), sl sC .no parts] = some (.agg (cl bC ((sha (inp tag parts)).take 16)))) (hnr : ∀ (g : Nat) (xs : List C), noRefs 0 xs = false → pu g xs = none) (h45 : ∀ (c i : Nat) (seed : List UInt8), i < 1000000 ∧ c < 68 → seed.length ≤ 1000000 → pu 45 [.val (nI c), .kp [.val (nI i)], .kp [.val (str seed)]] = some (.agg (cl bC (topT seed i c))))
    (seed : List UInt8) (k : Nat) (hs : seed.length ≤ 1000000) (hk : k < 1000000) : FC Tryd.prog gl 38 [.fn 45 [.kp [.val (nI k)], .kp [.val (str seed)]]] [] (.agg (cl bC (leafT seed k))) [] :=
  fc38 hcx (fun pre p h1 h2 => (hp3_25 _ _).trans (hq25f pre p h1 h2)) (fun pre l p h1 h2 => (hp3_25 _ _).trans (hq25u pre l p h1 h2)) (fun b k m => (hq25n b k m).elim fun r h => ⟨r, (hp3_25 _ _).trans h⟩) hq29 h34 hnr
    45 [.kp [.val (nI k)], .kp [.val (str seed)]] (topT seed k) (fun c hc => h45 c k seed ⟨hk, hc⟩ hs) (fun c _ => topT_len seed k c) rfl
theorem fc38b (hcx : CxOK (cxQ gl M pu hp3)) (h34 : ∀ (tag : Int) (parts : List (List UInt8)), (inp tag parts).length < 1099511627776 → pu 34 [.val (.int .i64 tag), sl sC .no parts] = some (.agg (cl bC ((sha (inp tag parts)).take 16)))) (hnr : ∀ (g : Nat) (xs : List C), noRefs 0 xs = false → pu g xs = none) (h39 : ∀ (c i : Nat) (D : List Nat) (r : List UInt8), i < 1000000 ∧ c < 68 → D.length = 68 → gt D c < 4 → 16 * c + 16 ≤ r.length ∧ r.length ≤ 1000000 → pu 39 [.val (nI c), .kp [.val (nI i)], .kp [sl nC .no D], .kp [.fn 37 [.kp [sl bC .no r]]]] = some (.agg (cl bC (endV i D r c))))
    (i : Nat) (D : List Nat) (r : List UInt8) (hi : i < 1000000) (hD : D.length = 68) (hD4 : ∀ c, c < 68 → gt D c < 4) (hr : 1088 ≤ r.length ∧ r.length ≤ 1000000) : FC Tryd.prog gl 38 [.fn 39 [.kp [.val (nI i)], .kp [sl nC .no D], .kp [.fn 37 [.kp [sl bC .no r]]]]] [] (.agg (cl bC (leafV (endV i D r)))) [] :=
  fc38 hcx (fun pre p h1 h2 => (hp3_25 _ _).trans (hq25f pre p h1 h2)) (fun pre l p h1 h2 => (hp3_25 _ _).trans (hq25u pre l p h1 h2)) (fun b k m => (hq25n b k m).elim fun r h => ⟨r, (hp3_25 _ _).trans h⟩) hq29 h34 hnr
    39 [.kp [.val (nI i)], .kp [sl nC .no D], .kp [.fn 37 [.kp [sl bC .no r]]]] (endV i D r) (fun c hc => h39 c i D r ⟨hi, hc⟩ hD (hD4 c hc) ⟨by omega, hr.2⟩) (fun c hc => endV_len (by omega)) (by simp only [noRefs_cons, noRefs_nil, noRef_kp, noRef_val, noRef_sl, noRef_fnQ, Bool.and_self])
end
inductive Z38 where
  | a (seed : List UInt8) (k : Nat)
  | b (i : Nat) (D : List Nat) (r : List UInt8)
def Z38.Ok : Z38 → Prop
  | .a seed k => seed.length ≤ 1000000 ∧ k < 1000000
  | .b i D r => i < 1000000 ∧ D.length = 68 ∧ (∀ c, c < 68 → gt D c < 4) ∧ 1088 ≤ r.length ∧ r.length ≤ 1000000
def encZ : Z38 → List C
  | .a seed k => [.fn 45 [.kp [.val (nI k)], .kp [.val (str seed)]]]
  | .b i D r => [.fn 39 [.kp [.val (nI i)], .kp [sl nC .no D], .kp [.fn 37 [.kp [sl bC .no r]]]]]
def outZ : Z38 → C
  | .a seed k => .agg (cl bC (leafT seed k))
  | .b i D r => .agg (cl bC (leafV (endV i D r)))
theorem encZ_nr (z : Z38) : noRefs 0 (encZ z) = true := by
  cases z with
  | a seed k => rfl
  | b i D r => simp only [encZ, noRefs_cons, noRefs_nil, noRef_kp, noRef_val, noRef_sl, noRef_fn, Bool.and_self]
theorem encZ_inj {x y : Z38} (h : encZ x = encZ y) : outZ x = outZ y := by
  cases x with
  | a seed k =>
    cases y with
    | a seed' k' =>
      simp only [encZ, List.cons.injEq, C.fn.injEq, C.kp.injEq, C.val.injEq, nI_inj, str_inj, and_true, true_and] at h
      rw [h.1, h.2]
    | b i D r => exfalso; simp [encZ] at h
  | b i D r =>
    cases y with
    | a seed' k' => exfalso; simp [encZ] at h
    | b i' D' r' =>
      simp only [encZ, List.cons.injEq, C.fn.injEq, C.kp.injEq, C.val.injEq, nI_inj, sl_inj, and_true, true_and] at h
      rw [h.1, h.2.1, h.2.2]
theorem fc38z {gl : Nat → C} {M : Nat} {pu : Nat → List C → Option C} (hcx : CxOK (cxQ gl M pu hp3)) (h34 : ∀ (tag : Int) (parts : List (List UInt8)), (inp tag parts).length < 1099511627776 → pu 34 [.val (.int .i64 tag), sl sC .no parts] = some (.agg (cl bC ((sha (inp tag parts)).take 16)))) (hnr : ∀ (g : Nat) (xs : List C), noRefs 0 xs = false → pu g xs = none) (h45 : ∀ (c i : Nat) (seed : List UInt8), i < 1000000 ∧ c < 68 → seed.length ≤ 1000000 → pu 45 [.val (nI c), .kp [.val (nI i)], .kp [.val (str seed)]] = some (.agg (cl bC (topT seed i c))))
    (h39 : ∀ (c i : Nat) (D : List Nat) (r : List UInt8), i < 1000000 ∧ c < 68 → D.length = 68 → gt D c < 4 → 16 * c + 16 ≤ r.length ∧ r.length ≤ 1000000 → pu 39 [.val (nI c), .kp [.val (nI i)], .kp [sl nC .no D], .kp [.fn 37 [.kp [sl bC .no r]]]] = some (.agg (cl bC (endV i D r c))))
    (z : Z38) (hz : Z38.Ok z) : FC Tryd.prog gl 38 (encZ z) [] (outZ z) [] := by
  cases z with
  | a seed k => exact fc38a hcx h34 hnr h45 seed k hz.1 hz.2
  | b i D r => exact fc38b hcx h34 hnr h39 i D r hz.1 hz.2.1 hz.2.2.1 hz.2.2.2
section
theorem hQ22 (pre : Hp) (seed : List UInt8) (h1 : ∀ o ∈ pre, okBox o = true) : hp5 7 22 [.val (str seed)] pre = some (.fn 44 [.kp [.mp pre.length], .kp [.val (str seed)], atK pre.length seed 8], pre ++ [some (mapC (ents seed []))]) := (hp5_22 7 _ _).trans (hq22 pre seed h1)
theorem hQ44 (pre suf : Hp) (seed : List UInt8) (l k : Nat) (M : List (Nat × Nat)) (h1 : ∀ o ∈ pre, okBox o = true) (h2 : ∀ o ∈ suf, okBox o = true) (h3 : seed.length ≤ 1000000) (h4 : OkM M) (h5 : (k + 1) * 2 ^ l ≤ 1000000 ∧ l < 7) :
    hp5 7 44 [.val (nI l), .val (nI k), .kp [.mp pre.length], .kp [.val (str seed)], atK pre.length seed 8] (pre ++ ([some (mapC (ents seed M))] ++ suf)) = some (.agg (cl bC (treeT seed l k)), pre ++ ([some (mapC (ents seed (vis l k M)))] ++ suf)) :=
  hq44 7 pre suf seed l k 8 M h1 h2 h3 h4 h5.1 h5.2 (by omega) h5.2
theorem hQ25i (pre : Hp) (p : List UInt8) (h1 : ∀ o ∈ pre, okBox o = true) (h2 : 0 < p.length ∧ p.length ≤ 1000000000) : hp5 7 25 [.bt pre.length 54 2, sl bC .no p] (pre ++ [some [.val (.pointer none), .val (.slice none 0 0)]]) = some (.tup [.val (nI p.length), .val .nilIface], pre ++ [some [.bt pre.length 54 2, .gv (pre.length + 1) p.length (1, 5)], some (cl bC p)]) := (hp5_25 7 _ _).trans (hq25i pre p h1 h2)
theorem hQ25u (pre : Hp) (l p : List UInt8) (h1 : ∀ o ∈ pre, okBox o = true) (h2 : 0 < p.length ∧ p.length ≤ 1000000000 ∧ l.length ≤ 1000000000) : hp5 7 25 [.bt pre.length 54 2, .sv (pre.length + 2) 0 p.length] (pre ++ [some [.bt pre.length 54 2, .gv (pre.length + 1) l.length (1, 5)], some (cl bC l), some (cl bC p)]) = some (.tup [.val (nI p.length), .val .nilIface], pre ++ [some [.bt pre.length 54 2, .gv (pre.length + 3) (l ++ p).length (1, 5)], some deadC, some (cl bC p), some (cl bC (l ++ p))]) := (hp5_25 7 _ _).trans (hq25u pre l p h1 h2)
theorem hQ25n (b k m : Nat) : ∃ r, hp5 7 25 [.bt b 54 2, .sv k 0 m] [] = some r := (hq25n b k m).elim fun r h => ⟨r, (hp5_25 7 _ _).trans h⟩
theorem hQ29 (pre suf : Hp) (l : List UInt8) (h1 : ∀ o ∈ pre, okBox o = true) (h2 : ∀ o ∈ suf, okBox o = true) (h3 : l ≠ [] ∧ l.length ≤ 1000000000) : hp5 7 29 [.bt pre.length 54 2] (pre ++ ([some [.bt pre.length 54 2, .gv (pre.length + 1) l.length (1, 5)], some (cl bC l)] ++ suf)) = some (.val (str l), pre ++ ([some deadC, some deadC] ++ suf)) :=
  (hp5_miss 7 (by decide) (by decide) _ _).trans (hq29 pre suf l h1 h2 h3)
end
end Go.Sx
namespace Go.Sx.TA
open Go.RowKit Go.Proofs
end Go.Sx.TA
