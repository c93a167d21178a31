/-
  More equations: parts of arrays, arrays built of their elements, entries of lists. And what follows.
-/
import Derived.ChangeSame
import Derived.ChangeVars
import Derived.ChangeStays
import Derived.ChangeOld
import Derived.ChangeArms
import Derived.OpenShut
import Derived.RowKit
import Derived.JoinedOf
import Derived.Handed
import Derived.LaidLaws
import Derived.LaidMore
import Derived.KernelRfl
import Derived.LaidHandle
import Derived.MakeChecks
import Derived.Stop.Joined
import Derived.Lib.SlBytesConst
import Derived.SizedLaws
import Derived.JoinedCond
import Derived.Deep.CondSized
import Derived.Below
import Derived.Test.YtljjjkmiegeocaaPah
set_option linter.unusedSimpArgs false
set_option linter.unusedVariables false
namespace Go.Sx
open Go.RowKit
theorem gt_cons0 {α : Type} [Inhabited α] (a : α) (l : List α) : gt (a :: l) 0 = a := rfl
theorem gt_consS {α : Type} [Inhabited α] (a : α) (l : List α) (n : Nat) : gt (a :: l) (n + 1) = gt l n := by simp [gt, List.getD]
def lay1 (cells : List C) : List (Nat × C) → Option Plan
  | [] => some (vp (.agg cells))
  | (i, c) :: r => match c.cells? with
    | some cs => if cs.length = 1 ∧ i + 1 ≤ cells.length then lay1 (splice cells i cs) r else none
    | none => none
def buildA (de : Option TD) (z : List Value) (parts : List (Nat × C)) (q : Option Plan) : Option Plan := match de with
  | some d => if d.size = 1 ∧ z.all (·.oneCell') = true then lay1 (z.map .val) parts else q
  | none => q
/- slices built of their elements -/
def lay1s (n : Nat) (cells : List C) : List (Nat × C) → Option Plan
  | [] => some (vp (.sl .full n cells))
  | (i, c) :: r => match c.cells? with
    | some cs => if cs.length = 1 ∧ i + 1 ≤ cells.length then lay1s n (splice cells i cs) r else none
    | none => none
theorem lay1s_eq (n : Nat) : ∀ (parts : List (Nat × C)) (cells : List C), (lay (fun i => some (i * 1, 1)) cells parts).map (fun cs => vp (.sl .full n cs)) = lay1s n cells parts
  | [], cells => rfl
  | (i, c) :: r, cells => by
    unfold lay lay1s
    cases c.cells? with
    | none => rfl
    | some cs =>
      simp only [Nat.mul_one]
      split
      · have := lay1s_eq n r (splice cells i cs)
        simpa only [Nat.mul_one] using this
      · rfl
def bsA (de : Option TD) (n : Nat) (parts : List (Nat × C)) : Option Plan := match de with
  | some de => if n * de.size ≤ 65536 ∧ n ≤ 65536 ∧ de.zero.length = de.size ∧ de.zero.all (·.oneCell') = true then
      (lay (fun i => some (i * de.size, de.size)) (repZero de.zero n) parts).map fun cs => vp (.sl .full n cs) else none
  | none => none
theorem bs_slice (P : Program) (e : TypeId) (s y n : Nat) (z : List Value) (parts : List (Nat × C)) : buildSliceP P false (some ⟨.slice e, s, y, z⟩) n parts = bsA (td P e) n parts := rfl
theorem repZero_one (v : Value) : ∀ n, repZero [v] n = List.replicate n (.val v)
  | 0 => rfl
  | n + 1 => by rw [List.replicate_succ, ← repZero_one v n]; rfl
theorem bsA_one (u : TypeDesc) (y n : Nat) (v : Value) (parts : List (Nat × C)) (h : v.oneCell' = true) (hn : n ≤ 65536) : bsA (some ⟨u, 1, y, [v]⟩) n parts = lay1s n (List.replicate n (.val v)) parts := by
  unfold bsA
  simp only [Nat.mul_one, List.length_singleton, List.all_cons, List.all_nil, h, Bool.and_self, hn, and_self, if_true]
  rw [repZero_one]
  have := lay1s_eq n parts (List.replicate n (.val v))
  simpa only [Nat.mul_one] using this
theorem lay1s_s (n : Nat) (l : List (List UInt8)) (i : Nat) (x : List UInt8) (r : List (Nat × C)) (h : i < l.length) : lay1s n (cl sC l) ((i, .val (str x)) :: r) = lay1s n (cl sC (l.set i x)) r := by
  have e := cl_set (f := sC) l i x h
  rw [Nat.mul_one] at e
  have e2 : splice (cl sC l) i [.val (str x)] = cl sC (l.set i x) := e
  show (if [C.val (str x)].length = 1 ∧ i + 1 ≤ (cl sC l).length then lay1s n (splice (cl sC l) i [.val (str x)]) r else none) = _
  rw [if_pos ⟨rfl, by rw [cl_len (f := sC)]; omega⟩, e2]
theorem lay1s_nil {α : Type} (f : α → List C) (n : Nat) (l : List α) (h : n = l.length) : lay1s n (cl f l) [] = some (vp (sl f .full l)) := by
  subst h; rfl
theorem rep_str (n : Nat) : List.replicate n (C.val (str [])) = cl sC (List.replicate n []) := by
  induction n with
  | zero => rfl
  | succ n ih => rw [List.replicate_succ, ih]; rfl
/- whole boxes, and copies into them -/
/- zero values, and structs built of their parts -/
def zc (z : List Value) : List C := z.map .val
theorem zc_nil : zc [] = [] := rfl
theorem zc_cons (v : Value) (l : List Value) : zc (v :: l) = .val v :: zc l := rfl
def allOne (z : List Value) : Bool := z.all (·.oneCell')
theorem allOne_nil : allOne [] = true := rfl
theorem allOne_cons (v : Value) (l : List Value) : allOne (v :: l) = (v.oneCell' && allOne l) := rfl
def alQ (b : Bool) (cs : List C) : Option Plan := if b then some (.new cs fun id => .bp id 0) else none
theorem alloc_z (u : TypeDesc) (s y : Nat) (z : List Value) : allocP (some ⟨u, s, y, z⟩) = alQ (allOne z) (zc z) := rfl
theorem alQ_true (cs : List C) : alQ true cs = some (.new cs fun id => .bp id 0) := rfl
def plc (P : Program) : List Field → Option (List (Nat × Nat))
  | [] => some []
  | fd :: l => match td P fd.type, plc P l with
    | some d, some r => some ((fd.offset, d.size) :: r)
    | _, _ => none
theorem plc_eq (P : Program) : ∀ l : List Field, (l.mapM fun f => (td P f.type).map fun d => (f.offset, d.size)) = plc P l
  | [] => rfl
  | fd :: l => by
    rw [List.mapM_cons, plc_eq P l]
    simp only [plc, Option.bind_eq_bind, Option.pure_def]
    cases td P fd.type with
    | none => rfl
    | some d => cases plc P l <;> rfl
def plQ (d : Option TD) (o : Nat) (r : Option (List (Nat × Nat))) : Option (List (Nat × Nat)) := match d, r with
  | some d, some r => some ((o, d.size) :: r)
  | _, _ => none
theorem plc_nil (P : Program) : plc P [] = some [] := rfl
theorem plc_cons (P : Program) (nm : String) (t : TypeId) (o : Nat) (em : Bool) (tg pp : String) (bo : Nat) (l : List Field) : plc P (⟨nm, t, o, em, tg, pp, bo⟩ :: l) = plQ (td P t) o (plc P l) := by
  simp only [plc, plQ]
theorem plQ_some (u : TypeDesc) (s y : Nat) (z : List Value) (o : Nat) (r : List (Nat × Nat)) : plQ (some ⟨u, s, y, z⟩) o (some r) = some ((o, s) :: r) := rfl
def layS (pl : List (Nat × Nat)) (cells : List C) : List (Nat × C) → Option Plan
  | [] => some (vp (.agg cells))
  | (i, c) :: rest => match pl[i]?, c.cells? with
    | some (off, size), some cs => if cs.length = size ∧ off + size ≤ cells.length then layS pl (splice cells off cs) rest else none
    | _, _ => none
theorem layS_eq (pl : List (Nat × Nat)) : ∀ (parts : List (Nat × C)) (cells : List C), (lay (fun i => pl[i]?) cells parts).map (fun cs => vp (.agg cs)) = layS pl cells parts
  | [], cells => rfl
  | (i, c) :: r, cells => by
    unfold lay layS
    cases pl[i]? with
    | none => rfl
    | some p =>
      obtain ⟨off, size⟩ := p
      cases c.cells? with
      | none => rfl
      | some cs =>
        simp only []
        split
        · exact layS_eq pl r _
        · rfl
def bldS (b : Bool) (pl : Option (List (Nat × Nat))) (cells : List C) (parts : List (Nat × C)) : Option Plan := if b then (match pl with
  | some pl => layS pl cells parts
  | none => none) else none
theorem build_struct (P : Program) (fs : List Field) (s y : Nat) (z : List Value) (parts : List (Nat × C)) : buildP P (some ⟨.struct fs.toArray, s, y, z⟩) parts = bldS (allOne z) (plc P fs) (zc z) parts := by
  unfold buildP bldS allOne zc
  simp only [places]
  by_cases h : z.all (·.oneCell') = true
  · rw [if_neg (by rw [h]; decide), if_pos h, plc_eq]
    cases plc P fs with
    | none => rfl
    | some pl => exact layS_eq pl parts _
  · rw [if_pos (by simpa using h), if_neg h]
theorem bldS_true (pl : List (Nat × Nat)) (cells : List C) (parts : List (Nat × C)) : bldS true (some pl) cells parts = layS pl cells parts := rfl
def layQ (pl : List (Nat × Nat)) (p : Option (Nat × Nat)) (cs : Option (List C)) (cells : List C) (r : List (Nat × C)) : Option Plan := match p, cs with
  | some (off, size), some cs => if cs.length = size ∧ off + size ≤ cells.length then layS pl (splice cells off cs) r else none
  | _, _ => none
def layW (pl : List (Nat × Nat)) (q : Option (List C × C)) (r : List (Nat × C)) : Option Plan := match q with
  | some q => layS pl q.1 r
  | none => none
theorem layS_nil (pl : List (Nat × Nat)) (cells : List C) : layS pl cells [] = some (vp (.agg cells)) := rfl
theorem layS_cons (pl : List (Nat × Nat)) (cells : List C) (i : Nat) (c : C) (r : List (Nat × C)) : layS pl cells ((i, c) :: r) = layQ pl (pl[i]?) c.cells? cells r := by
  rw [layS.eq_def]; rfl
theorem layQ_some (pl : List (Nat × Nat)) (off size : Nat) (cs cells : List C) (r : List (Nat × C)) (h : cs.length = size) : layQ pl (some (off, size)) (some cs) cells r = layW pl (wrc cells off cs) r := by
  subst h
  unfold layQ layW wrc
  simp only [true_and]
  split <;> rfl
theorem layW_some (pl : List (Nat × Nat)) (cells : List C) (c : C) (r : List (Nat × C)) : layW pl (some (cells, c)) r = layS pl cells r := rfl
/- cells behind lists -/
section
variable {α β : Type} {f : α → List C} {s : Nat} [hf : Cel f s] {g : β → List C}
end
theorem bsA_s (u : TypeDesc) (y n : Nat) (parts : List (Nat × C)) (hn : n ≤ 65536) : bsA (some ⟨u, 1, y, [str []]⟩) n parts = lay1s n (cl sC (List.replicate n [])) parts := by
  rw [bsA_one u y n _ parts rfl hn, rep_str]
end Go.Sx
namespace Go.Sx
open Go.RowKit Go.ChangeShapes Go.WideShapes
/-- All of memory is known; nobody will write it. -/
def GW (W : World) : Gh := ⟨fun b o => W.cell? ⟨b, o, none⟩, fun _ => none, fun _ => none, fun _ => none⟩
theorem GW_ok (W : World) : WorldOK (GW W) [] W :=
  ⟨fun _ _ _ h => h, fun b cells h => (by simp [Hp.at] at h), fun b blk h => (by cases h), fun b b' c c' blk _ _ h => (by cases h), fun b blk h => (by cases h), fun g p h => (by cases h),
    fun b cells off s n xs blk v h => (by simp [Hp.at] at h), fun b z h => (by cases h)⟩
section
variable {P : Program} {t e : TypeId}
theorem rds_val {c v : Value} {G : Gh} (h : v = c) : RepL G [.val c] [v] := by
  simp only [RepL, Rep]; exact ⟨v, [], rfl, h, rfl⟩
theorem addr_add2 (b o x y : Nat) : ((⟨b, o, none⟩ : Addr).add x).add y = ⟨b, o + x + y, none⟩ := by
  simp only [Addr.add]
  by_cases hx : x = 0 <;> by_cases hy : y = 0 <;> simp [hx, hy]
theorem forall_lists {α : Type} {R : Nat → α → Prop} : ∀ n, (∀ i < n, ∃ a, R i a) → ∃ l : List α, l.length = n ∧ ∀ i a, l[i]? = some a → R i a
  | 0, _ => ⟨[], rfl, by simp⟩
  | n + 1, h => by
    obtain ⟨l, h1, h2⟩ := forall_lists n (fun i hi => h i (by omega))
    obtain ⟨a, ha⟩ := h n (by omega)
    refine ⟨l ++ [a], by simp [h1], fun i b hb => ?_⟩
    rw [List.getElem?_append] at hb
    split at hb
    · exact h2 i b hb
    · rename_i hi
      have : i = n := by
        have := (List.getElem?_eq_some_iff.1 hb).1
        simp at this; omega
      subst this
      simp [h1] at hb; subst hb; exact ha
theorem cl_getq {α : Type} {f : α → List C} {s : Nat} [hf : Cel f s] (l : List α) (i j : Nat) (hj : j < s) : (cl f l)[i * s + j]? = (l[i]?).bind fun a => (f a)[j]? := by
  have h1 : (cl f l)[i * s + j]? = ((cl f l).drop (i * s))[j]? := by rw [List.getElem?_drop]
  rw [h1, cl_drop]
  cases hq : l[i]? with
  | none =>
    rw [List.drop_of_length_le (by simpa using hq)]; rfl
  | some a =>
    obtain ⟨hi, rfl⟩ := List.getElem?_eq_some_iff.1 hq
    rw [List.drop_eq_getElem_cons hi, cl_cons, List.getElem?_append_left (by rw [hf.len]; exact hj)]; rfl
end
/-! Arguments. -/
section
variable {H : Type} {enc : TypeId × Value → H} {P : Program} {W : World} {base b0 : Nat} {sp : Nat → Bool} {held : Bool} {t : TypeId} {v : Value} {d : DataW H} {ps : List MemPlace}
end
/-! What a law owes when it returns. -/
def slicesB (P : Program) : Bool := (List.range P.types.size).all fun t => match P.underlying t with
  | some (.slice e) => decide (0 < P.cellsOf e)
  | _ => true
theorem trodAll_stays {H : Type} {enc : TypeId × Value → H} {P : Program} {W W' : World} {sp : Nat → Bool} (hl : laidOutB P = true) (hm : mapsRowed P = true) (hs : slicesB P = true) :
    ∀ (ts : List TypeId) (vs : List Value) (ds : List (DataW H)) (ps : List MemPlace), (∀ t ∈ ts, t < P.types.size) → DataW.TrodAll enc P W 0 (fun _ => true) true ts vs ds ps →
      (∀ p ∈ ps, W.sameAt W' p) → (∀ p ∈ ps, sp p.block = true) → DataW.TrodAll enc P W' 0 sp true ts vs ds ps
  | [], [], [], ps, _, h, _, _ => h
  | t :: ts, v :: vs, d :: ds, ps, hb, h, h1, h2 => by
    obtain ⟨p, q, ⟨fuel, h3⟩, h4, rfl⟩ := h
    refine ⟨p, q, ⟨fuel, ?_⟩, trodAll_stays hl hm hs ts vs ds q (fun t ht => hb t (List.mem_cons_of_mem _ ht)) h4 (fun p hp => h1 p (List.mem_append_right _ hp)) (fun p hp => h2 p (List.mem_append_right _ hp)), rfl⟩
    refine DataW.trod_stays (T := (· < P.types.size)) (kids_rows hl hm) (fun {t e} ht he => ?_) (fun h => by cases h) (hb t (List.mem_cons_self ..)) h3 (fun p hp => h1 p (List.mem_append_left _ hp)) (fun p hp => h2 p (List.mem_append_left _ hp))
    have := List.all_eq_true.1 hs t (List.mem_range.2 ht)
    rw [he] at this
    simpa using this
  | [], [], _ :: _, _, _, h, _, _ => h.elim
  | [], _ :: _, _, _, _, h, _, _ => h.elim
  | _ :: _, [], _, _, _, h, _, _ => h.elim
  | _ :: _, _ :: _, [], _, _, h, _, _ => h.elim
theorem law_post {H : Type} {enc : TypeId × Value → H} {P : Program} {f : Func} {s : ChangeSpec} {fresh handsOn again : Bool} {W W' : World} {args : Array Value} {ds gs : List (DataW H)} {before : List MemPlace} {t : TypeId}
    (hl : laidOutB P = true) (hm : mapsRowed P = true) (hsl : slicesB P = true) (hps : ∀ t ∈ f.params.toList, t < P.types.size)
    (hW : DataW.Whole enc P f.params.toList s.vars false W args.toList ds gs before) (hv : s.vars = [])
    (hs : s.fn H ds = { results := [.lit (.bool true)], args := ds }) (hr : f.resultTypes = #[t]) (ht : P.underlying t = some .bool)
    (hos : W'.os = W.os) (hout : W'.output = W.output) (hold : ∀ g < W.heap.size, W'.heap[g]? = W.heap[g]?) :
    s.post enc P f false fresh handsOn again W args (.bool true) W' := by
  have hlt := hW.lt
  have hW0 := hW
  obtain ⟨p, q, h1, h2, rfl, hz, hn⟩ := hW
  rw [hv] at h2
  obtain ⟨rfl, rfl⟩ := trodVars_none h2
  simp only [List.append_nil] at hW0 hlt hz hn
  have same : ∀ x ∈ p, W.sameAt W' x := fun x hx => by
    have hb := hold _ (hlt x hx)
    cases x with
    | cell b o => simp only [World.sameAt, MemPlace.block] at hb ⊢; simp only [World.cell?]; rw [hb]
    | map b => exact hb
  have args' : ∀ sp : Nat → Bool, (∀ x ∈ p, sp x.block = true) → DataW.TrodAll enc P W' 0 sp true f.params.toList args.toList ds p := fun sp hsp =>
    trodAll_stays hl hm hsl _ _ _ _ hps h1 same hsp
  have res : ∀ (b : Nat) (sp : Nat → Bool) (hd : Bool), DataW.TrodAll enc P W' b sp hd f.resultTypes.toList ((Value.bool true).resultList f.resultTypes.size) [.lit (.bool true)] [] := fun b sp hd => by
    rw [hr]; exact trodAll_mk1 (shut_bool ht true)
  refine ⟨ds, [], p, [], p, [], hW0, ?_, ?_, ?_, ?_, fun _ => ⟨?_, .lit (.bool true) :: ds, [], p, ⟨p, [], ?_, ?_, by simp, fun b off hp => ?_, fun h => by cases h⟩, fun x hx _ => hx⟩⟩
  · rw [List.append_nil, hs]; exact res _ _ _
  · rw [List.append_nil, hs]; exact args' _ fun x hx => by simpa using hlt x hx
  · rw [List.append_nil, hs, hv]; rfl
  · refine ⟨hos, hout, fun i hi => ?_⟩
    rw [hold i hi]
    cases W.heap[i]? with
    | none => rfl
    | some o => cases o <;> simp
  · exact ok_one hr rfl (okWide_bool_mk ht true)
  · rw [hr]
    exact ⟨[], p, shut_bool ht true, args' (fun _ => true) fun _ _ => rfl, rfl⟩
  · rw [hv]; rfl
  · have := hz b off hp
    simp only [World.frozen?] at this ⊢
    rw [hold b (hlt _ hp)]; exact this
end Go.Sx
namespace Go.Sx
open Go.RowKit
theorem int_cast (n : Nat) : Value.int .i64 (n : Int) = nI n := id rfl
section
variable (P : Program) (t : TypeId)
theorem i_add (x y : Int) (h : -9223372036854775808 ≤ x + y ∧ x + y < 9223372036854775808) : binPlan P .add t (.val (.int .i64 x)) (.val (.int .i64 y)) = some (vp (.val (.int .i64 (x + y)))) := by
  simp only [bin_int, sbin, ne_eq, not_true_eq_false, if_false, Option.map_some]
  rw [wrap_i64 _ (by omega) (by omega)]
theorem i_addn (x : Int) (y : Nat) (h : -9223372036854775808 ≤ x + y ∧ x + y < 9223372036854775808) : binPlan P .add t (.val (.int .i64 x)) (.val (nI y)) = some (vp (.val (.int .i64 (x + y)))) := i_add P t x y h
theorem i_sub (x y : Int) (h : -9223372036854775808 ≤ x - y ∧ x - y < 9223372036854775808) : binPlan P .sub t (.val (.int .i64 x)) (.val (.int .i64 y)) = some (vp (.val (.int .i64 (x - y)))) := by
  simp only [bin_int, sbin, ne_eq, not_true_eq_false, if_false, Option.map_some]
  rw [wrap_i64 _ (by omega) (by omega)]
theorem i_mul (x y : Int) (h : -9223372036854775808 ≤ x * y ∧ x * y < 9223372036854775808) : binPlan P .mul t (.val (.int .i64 x)) (.val (.int .i64 y)) = some (vp (.val (.int .i64 (x * y)))) := by
  simp only [bin_int, sbin, ne_eq, not_true_eq_false, if_false, Option.map_some]
  rw [wrap_i64 _ (by omega) (by omega)]
theorem i_rem (x y : Int) (h : y ≠ 0) : binPlan P .rem t (.val (.int .i64 x)) (.val (.int .i64 y)) = some (vp (.val (.int .i64 (x.tmod y)))) := by
  simp only [bin_int, sbin, ne_eq, not_true_eq_false, if_false, Option.map_some, h]
theorem i_remn (x : Int) (y : Nat) (h : 0 < y) : binPlan P .rem t (.val (.int .i64 x)) (.val (nI y)) = some (vp (.val (.int .i64 (x.tmod y)))) := i_rem P t x y (by omega)
theorem i_eql (x y : Int) : binPlan P .eql t (.val (.int .i64 x)) (.val (.int .i64 y)) = some (vp (.val (.bool (decide (x = y))))) := by
  simp only [bin_int, sbin, ne_eq, not_true_eq_false, if_false, Option.map_some]
  congr 4
theorem i_neq (x y : Int) : binPlan P .neq t (.val (.int .i64 x)) (.val (.int .i64 y)) = some (vp (.val (.bool (decide (x ≠ y))))) := by
  simp only [bin_int, sbin, ne_eq, not_true_eq_false, if_false, Option.map_some]
  congr 4; rw [Bool.eq_iff_iff]; simp
theorem i_lss (x y : Int) : binPlan P .lss t (.val (.int .i64 x)) (.val (.int .i64 y)) = some (vp (.val (.bool (decide (x < y))))) := by
  simp only [bin_int, sbin, ne_eq, not_true_eq_false, if_false, Option.map_some]
theorem i_leq (x y : Int) : binPlan P .leq t (.val (.int .i64 x)) (.val (.int .i64 y)) = some (vp (.val (.bool (decide (x ≤ y))))) := by
  simp only [bin_int, sbin, ne_eq, not_true_eq_false, if_false, Option.map_some]
theorem i_gtr (x y : Int) : binPlan P .gtr t (.val (.int .i64 x)) (.val (.int .i64 y)) = some (vp (.val (.bool (decide (y < x))))) := by
  simp only [bin_int, sbin, ne_eq, not_true_eq_false, if_false, Option.map_some]
theorem i_geq (x y : Int) : binPlan P .geq t (.val (.int .i64 x)) (.val (.int .i64 y)) = some (vp (.val (.bool (decide (y ≤ x))))) := by
  simp only [bin_int, sbin, ne_eq, not_true_eq_false, if_false, Option.map_some]
theorem i_eqln (x : Int) (y : Nat) : binPlan P .eql t (.val (.int .i64 x)) (.val (nI y)) = some (vp (.val (.bool (decide (x = y))))) := i_eql P t x y
theorem i_neqn (x : Int) (y : Nat) : binPlan P .neq t (.val (.int .i64 x)) (.val (nI y)) = some (vp (.val (.bool (decide (x ≠ y))))) := i_neq P t x y
theorem i_lssn (x : Int) (y : Nat) : binPlan P .lss t (.val (.int .i64 x)) (.val (nI y)) = some (vp (.val (.bool (decide (x < y))))) := i_lss P t x y
theorem i_leqn (x : Int) (y : Nat) : binPlan P .leq t (.val (.int .i64 x)) (.val (nI y)) = some (vp (.val (.bool (decide (x ≤ y))))) := i_leq P t x y
theorem i_gtrn (x : Int) (y : Nat) : binPlan P .gtr t (.val (.int .i64 x)) (.val (nI y)) = some (vp (.val (.bool (decide ((y : Int) < x))))) := i_gtr P t x y
theorem i_geqn (x : Int) (y : Nat) : binPlan P .geq t (.val (.int .i64 x)) (.val (nI y)) = some (vp (.val (.bool (decide ((y : Int) ≤ x))))) := i_geq P t x y
/- 64-bit words -/
theorem un_negi (x : Int) (h : -9223372036854775808 < x ∧ x ≤ 9223372036854775808) : unPlan .neg (.val (.int .i64 x)) = some (vp (.val (.int .i64 (-x)))) := by
  show some (vp (.val (.int .i64 (IntKind.wrap .i64 (0 - x))))) = _
  rw [wrap_i64 _ (by omega) (by omega), Int.zero_sub]
end
theorem idx_int (n : Nat) (x : Int) (h : 0 ≤ x ∧ x < n) : idx? (.val (.int .i64 x)) n = some x.toNat := by
  simp only [idx?, C.int?]; rw [if_pos h]
/- at joins and at the heads of loops -/
theorem CLe_int {x y : Int} (h : x = y) : CLe (.val (.int .i64 x)) (.val (.int .i64 y)) := h ▸ CLe.refl _
theorem CLe_inI {x : Int} {y : Nat} (h : x = y) : CLe (.val (.int .i64 x)) (.val (nI y)) := h ▸ CLe.refl _
theorem CLe_nIi {x : Nat} {y : Int} (h : (x : Int) = y) : CLe (.val (nI x)) (.val (.int .i64 y)) := h ▸ CLe.refl _
theorem CLe_nI {x y : Nat} (h : x = y) : CLe (.val (nI x)) (.val (nI y)) := h ▸ CLe.refl _
theorem CLe_sln {α : Type} {f : α → List C} {r : Rt} {l : List α} (h : l = []) : CLe (.val (.slice none 0 0)) (sl f r l) := by subst h; exact CLe.nil _
end Go.Sx
namespace Go.Sx
open Go.RowKit
end Go.Sx
namespace Go.Sx
open Go.RowKit
section
variable (P : Program)
def eqR (op : BinOp) (b : Bool) : Option Plan := match op with
  | .eql => some (vp (.val (.bool b)))
  | .neq => some (vp (.val (.bool (!b))))
  | _ => none
theorem eqR_eql (b : Bool) : eqR .eql b = some (vp (.val (.bool b))) := rfl
end
@[congr] theorem stG_congr {cx : Cx} {apps : List Nat} {dsts : List (Option Nat)} {l : List Oper} {id : Nat} {d : Option Nat} {e : List (Nat × C)} {h : Hp} {fs : List FP} {K : List FP → St → Prop} {ty : TypeId} {pos : String} {aft : Array Edge} {op : Op} {p p' : Option Bool} (hp : p = p') :
    stG cx apps dsts l id d e h fs K ty pos aft op p = stG cx apps dsts l id d e h fs K ty pos aft op p' := by rw [hp]
def wanV (c : C) (w : Bool) : Option Bool := match c with
  | .val (.bool b) => some (b == w)
  | .val (.tuple _) => some false
  | _ => none
def wanQ (d : Option (Option Nat)) (w : Bool) (e : List (Nat × C)) : Option Bool := match d.bind id with
  | none => some false
  | some t => wanV (A e t).noR w
theorem wanted_q (dsts : List (Option Nat)) (j : Nat) (w : Bool) (e : List (Nat × C)) : wantedA dsts (some (j, w)) (A e) = wanQ (dsts[j]?) w e := rfl
theorem wanQ_some (t : Nat) (w : Bool) (e : List (Nat × C)) : wanQ (some (some t)) w e = wanV (A e t).noR w := rfl
theorem wanV_T (b : Bool) : wanV (.val (.bool b)) true = some b := by cases b <;> rfl
theorem wanV_F (b : Bool) : wanV (.val (.bool b)) false = some (!b) := by cases b <;> rfl
theorem wanV_u (w : Bool) : wanV (.val undef) w = some false := rfl
end Go.Sx
namespace Go.Sx
open Go.RowKit
section
variable {cx : Cx} {G : Gh} {w : World} {st : St} {a : Act}
/-- What is asked of the two operations. -/
structure Lit (cx : Cx) (ops ops' : Array Oper) (k : Nat) : Prop where
  dst : ops'.toList.map (·.dst) = ops.toList.map (·.dst)
  app : ops'.toList.filterMap appOf = ops.toList.filterMap appOf
  cnt : ∀ i, cnt ops' i = cnt ops i
  same : ∀ i, i ≠ k + 1 → ops'[i]? = ops[i]?
  two : ∃ p q t n ps ty1 pos1 aft1 ty2 pos2 aft2 e s y z y2 z2, ops[k]? = some ⟨some p, .buildSlice t n ps, ty1, pos1, aft1, none⟩ ∧ ops[k + 1]? = some ⟨some q, .convert t t (.tmp p), ty2, pos2, aft2, none⟩ ∧
    ops'[k + 1]? = some ⟨some q, .move (.tmp p), ty2, pos2, aft2, none⟩ ∧ td cx.P t = some ⟨.slice e, s, y, z⟩ ∧ td cx.P e = some ⟨.int .u8, 1, y2, z2⟩ ∧ cx.gr p = false
end
end Go.Sx
namespace Go.Sx
open Go.RowKit
class Inj {α : Type} (f : α → List C) : Prop where
  inj : ∀ a b, f a = f b → a = b
instance : Inj bC := ⟨fun a b h => by simpa [bC, w8_inj] using h⟩
instance : Inj wC := ⟨fun a b h => by simpa [wC, w32_inj] using h⟩
instance : Inj sC := ⟨fun a b h => by simpa [sC, str_inj] using h⟩
instance : Inj nC := ⟨fun a b h => by simpa [nC, nI_inj] using h⟩
instance : Inj iC := ⟨fun a b h => by simpa [iC] using h⟩
instance : Inj oC := ⟨fun a b h => by simpa [oC] using h⟩
theorem cl_inj {α : Type} {f : α → List C} {s : Nat} [hf : Cel f s] [hi : Inj f] : ∀ {l l' : List α}, cl f l = cl f l' ↔ l = l' := by
  intro l l'
  constructor
  · induction l generalizing l' with
    | nil =>
      intro h
      cases l' with
      | nil => rfl
      | cons a l' =>
        have := congrArg List.length h
        rw [cl_nil, cl_cons, List.length_append, hf.len] at this
        have := hf.pos
        simp at *
        omega
    | cons a l ih =>
      intro h
      cases l' with
      | nil =>
        have := congrArg List.length h
        rw [cl_nil, cl_cons, List.length_append, hf.len] at this
        have := hf.pos
        simp at *
        omega
      | cons b l' =>
        rw [cl_cons, cl_cons] at h
        obtain ⟨h1, h2⟩ := List.append_inj h (by rw [hf.len, hf.len])
        rw [hi.inj _ _ h1, ih h2]
  · rintro rfl; rfl
theorem sl_inj {α : Type} {f : α → List C} {s : Nat} [hf : Cel f s] [hi : Inj f] {r : Rt} {l l' : List α} : sl f r l = sl f r l' ↔ l = l' := by
  constructor
  · intro h
    simp only [sl, C.sl.injEq, true_and] at h
    exact cl_inj.1 h.2
  · rintro rfl; rfl
end Go.Sx
namespace Go.Sx
open Go.RowKit
attribute [go_sem ↓] A_cons GB_true GB_false
attribute [go_sem] callQ_some callQ_none callR_rd refBox_bp refBox_val oneB_nil rdPu_eq rdQ_some rdR_true frzs_nil frzs_cons frz_val frz_bp frzB_one noRef_val noRef_agg noRef_tup noRef_kp noRef_sl noRefs_cl noRefs_cons noRefs_nil noRefs_app flat_val flats_cl flats_app Bool.and_self Bool.and_true on_tmp on_const on_func orw_tmp orw_const tmpq_tmp tmpq_const not_true_eq_false not_false_eq_true noR_val noR_sv noR_bp noR_kp noR_agg noR_tup noR_fn noR_slno noR_slfull noR_slown run_nil run_mvt run_mvc run_asg run_pick run_alloc run_box run_build run_buildS run_load run_store run_bin run_un run_conv run_mkf run_mks run_slice run_fa run_ixa run_ix run_extr run_len run_app run_call run_mkS run_mkN run_guard bump_move bump_pick bump_load bump_binOp bump_unOp bump_fieldAddr bump_indexAddr bump_index bump_call stV_vp stV_val0 stV_valk stV_rd stV_wr stV_xr stV_new stR_some stW_some0 stW_somek stN_some stG_some AN_true dOK_some dOK_none lit_w8o lit_nIo str_mk mvP isA_nil isA_cons Bool.or_false Bool.false_or Bool.true_or Bool.or_true beq_self_eq_true onM onP List.map_nil List.map_cons Option.map_none Option.map_some Option.bind_some Option.bind_none thenQ_n b_add b_sub b_eql b_lss b_leq b_gtr b_geq n_add n_sub n_quo n_rem n_eql n_neq n_lss n_leq n_gtr n_geq un_not s_eql s_neq s_add int_cast ne_eq wanted_q wanQ_some wanV_T wanV_F wanV_u eqR_eql eq_self decide_true decide_false Bool.not_true Bool.not_false i_add i_addn i_sub i_mul i_rem i_remn i_eql i_neq i_lss i_leq i_gtr i_geq i_eqln i_neqn i_lssn i_leqn i_gtrn i_geqn un_negi idx_int conv_td cv_vs cvV_u8 load_bp ldB_int ldB_str ldB_sl ldB_slo ldB_struct load_kp ldK_int ldK_str store_val store_agg store_sl stS_one stB_many cells_w8 cells_nI cells_int cells_str cells_agg cl_noR box_cs boxQ_some alloc_z alQ_true allOne_nil allOne_cons zc_nil zc_cons one_nI one_str one_slice build_struct bldS_true plc_nil plc_cons plQ_some layS_nil layS_cons layQ_some layW_some idx_nI bound_nI bound_none ixa_td ixS_some ixa_sv ixa_slT ixL_some inx_td inx_str inS_some len_td len_str len_sv len_sl Nat.mul_one Nat.zero_add Nat.add_zero slice_td sl2_none sl2_nI slS_some slP_str app_td app_ss apQ_own pick_tf pick_ff extractP callP shares List.append_nil share_w8 share_nI share_strs share_val share_nil share_bp share_agg share_slno share_slfull rds_cl List.map_append gt_cons0 gt_consS bs_slice bsA_s lay1s_s lay1s_nil rep_str Nat.sub_zero Nat.zero_mul List.drop_zero List.drop_succ_cons List.take_succ_cons List.take_zero at_cons0 at_consS rdc_cons0 rdc_consS rdc_drop rdc_cl wrc_b wrc_i List.set_cons_zero List.set_cons_succ List.getElem?_cons_zero List.getElem?_cons_succ List.length_nil List.length_cons List.nil_append List.cons_append Nat.add_sub_cancel_left List.length_set List.length_replicate gt_def
end Go.Sx
namespace Go.Sx
open Go.RowKit Go.ChangeShapes
theorem trods_cons {H : Type} {enc : TypeId × Value → H} {P : Program} {W : World} {b : Nat} {sp : Nat → Bool} {hd : Bool} {t : TypeId} {ts : List TypeId} {vs : List Value} {ds : List (DataW H)} {ps : List MemPlace}
    (h : DataW.TrodAll enc P W b sp hd (t :: ts) vs ds ps) : ∃ v vs' d ds' p q, vs = v :: vs' ∧ ds = d :: ds' ∧ DataW.Trod enc P W b sp hd t v d p ∧ DataW.TrodAll enc P W b sp hd ts vs' ds' q := by
  cases vs <;> cases ds <;> simp only [DataW.TrodAll] at h
  obtain ⟨p, q, h1, h2, _⟩ := h
  exact ⟨_, _, _, _, p, q, rfl, rfl, h1, h2⟩
theorem trods_nil {H : Type} {enc : TypeId × Value → H} {P : Program} {W : World} {b : Nat} {sp : Nat → Bool} {hd : Bool} {vs : List Value} {ds : List (DataW H)} {ps : List MemPlace}
    (h : DataW.TrodAll enc P W b sp hd [] vs ds ps) : vs = [] := by
  cases vs <;> cases ds <;> simp only [DataW.TrodAll] at h <;> rfl
section
variable {P : Program} {t e : TypeId}
end
end Go.Sx
namespace Go.Sx
attribute [go_sem] one_nI one_str one_slice refy_sv refy_bp refy_agg refy_val refy_kp refy_tsl cl_len thenQ_n thenQ_r blockQ_n blockQ_r EndsR_r resL_one resC_tmp resC_cell rcP_struct Le_nil Le_cons CLe_refl CLe_top CLe_full CLe_nil CLe_own ev_tmp ev_const condG_bool true_and and_true
end Go.Sx
namespace Go.Sx
open Go.RowKit
abbrev Dig := {l : List UInt8 // l.length = 16}
instance : Inhabited Dig := ⟨⟨List.replicate 16 0, by simp⟩⟩
def dC (d : Dig) : List C := cl bC d.1
instance : Cel dC 16 := ⟨fun a => by unfold dC; rw [cl_len (f := bC), a.2], fun a => by unfold dC; exact cl_noR a.1, by decide, fun a r => by
  unfold dC
  obtain ⟨l, hl⟩ := a
  cases l with
  | nil => simp at hl
  | cons b l => rfl⟩
instance : Fla dC := ⟨fun a => by unfold dC; exact flats_cl bC a.1⟩
instance : Inj dC := ⟨fun a b h => Subtype.ext (cl_inj.1 h)⟩
def res2 (a b : Option C) : Option C := match a, b with
  | some a, some b => some (.tup [a.noR, b.noR])
  | _, _ => none
def res3 (a b c : Option C) : Option C := match a, b, c with
  | some a, some b, some c => some (.tup [a.noR, b.noR, c.noR])
  | _, _, _ => none
theorem resL_2 (cx : Cx) (st : St) (r1 r2 : ResultVar) : resL cx st [r1, r2] = res2 (resC cx st r1) (resC cx st r2) := by
  unfold resL res2
  simp only [List.mapM_cons, List.mapM_nil, Option.bind_eq_bind, Option.pure_def]
  cases resC cx st r1 <;> cases resC cx st r2 <;> rfl
theorem resL_3 (cx : Cx) (st : St) (r1 r2 r3 : ResultVar) : resL cx st [r1, r2, r3] = res3 (resC cx st r1) (resC cx st r2) (resC cx st r3) := by
  unfold resL res3
  simp only [List.mapM_cons, List.mapM_nil, Option.bind_eq_bind, Option.pure_def]
  cases resC cx st r1 <;> cases resC cx st r2 <;> cases resC cx st r3 <;> rfl
theorem res2_some (a b : C) : res2 (some a) (some b) = some (.tup [a.noR, b.noR]) := rfl
theorem res3_some (a b c : C) : res3 (some a) (some b) (some c) = some (.tup [a.noR, b.noR, c.noR]) := rfl
attribute [go_sem] resL_2 resL_3 res2_some res3_some
end Go.Sx
namespace Go.Sx
open Go.RowKit
theorem tkd {α : Type} (l : List α) (p : Nat) : List.take (l.length - p) (List.drop p l) = List.drop p l := by
  rw [← List.length_drop, List.take_length]
attribute [go_sem] tkd List.map_cons List.map_nil List.set_cons_zero
end Go.Sx
namespace Go.Sx
open Go.RowKit
theorem cells_sl {α : Type} (f : α → List C) (r : Rt) (l : List α) : (sl f r l).cells? = some [(sl f r l).noR] := rfl
attribute [go_sem] cells_sl
end Go.Sx
namespace Go.Sx
open Go.RowKit
/-- A slice in one cell. -/
def lC {α : Type} (f : α → List C) (l : List α) : List C := [sl f .no l]
instance {α : Type} (f : α → List C) : Sca (lC f) (sl f .no) := ⟨fun _ => rfl, fun _ => rfl, fun _ => rfl, fun _ _ => rfl⟩
attribute [go_sem] List.nil_append List.cons_append
end Go.Sx
namespace Go.Sx
open Go.RowKit
end Go.Sx
namespace Go.Sx
open Go.RowKit Go.ChangeShapes Go.WideShapes
/-- How a value stands to the data that it reads as. -/
abbrev Rel (α : Type) := α → (H : Type) → DataW H → Prop
def Rdx (P : Program) (t : TypeId) {α : Type} (f : α → List C) (R : Rel α) : Prop :=
  ∀ {H : Type} {enc : TypeId × Value → H} {W : World} {base : Nat} {sp : Nat → Bool} {held : Bool} {fuel : Nat} {cs : List Value} {x : DataW H × List MemPlace},
    DataW.trod enc P W base sp held fuel t cs = some x → ∃ a, R a H x.1 ∧ RepL (GW W) (f a) cs ∧ ∀ u ∈ cs, u.oneCell' = true
def RI : Rel Int := fun n _ d => (-9223372036854775808 ≤ n ∧ n ≤ 9223372036854775807) ∧ d = .lit (.int .i64 n)
def RL {α : Type} (R : Rel α) : Rel (List α) := fun l H d => (l = [] ∧ d = .nil) ∨ ∃ elems spare, d = .slice elems spare ∧ l.length ≤ 9223372036854775807 ∧ elems.length = l.length ∧ ∀ (i : Nat) a x, l[i]? = some a → elems[i]? = some x → R a H x
section
variable {P : Program} {t e : TypeId}
theorem rdx_int (ht : P.underlying t = some (.int .i64)) : Rdx P t iC RI := fun h => by
  obtain ⟨n, rfl, e, hw⟩ := DataW.trod_int ht h
  refine ⟨n, ⟨?_, by rw [e]⟩, rds_val rfl, by simp [Value.oneCell']⟩
  simpa [Lit.wf, IntKind.min, IntKind.max, IntKind.signed, IntKind.bits] using hw
theorem rdx_slice {α : Type} {f : α → List C} {R : Rel α} {s : Nat} [hf : Cel f s] (ht : P.underlying t = some (.slice e)) (hc : P.cellsOf e = s) (he : Rdx P e f R) :
    Rdx P t (fun l : List α => [sl f .no l]) (RL R) := fun {H enc W base sp held fuel cs x} h => by
  rcases DataW.trod_slice ht h with ⟨rfl, ex⟩ | ⟨a, len, cap, elems, rest, n, _, rfl, ex, hb, hl, hm, hlen, hel, _, _⟩
  · refine ⟨[], .inl ⟨rfl, by rw [ex]⟩, ?_, by simp [Value.oneCell']⟩
    simp only [RepL]
    refine ⟨_, [], rfl, ?_, rfl⟩
    simp only [sl, Rep]
    exact ⟨none, 0, rfl, Nat.le_refl _, Nat.zero_le _, by simp, .inl rfl⟩
  · have each : ∀ i < len, ∃ b, (∀ y, elems[i]? = some y → R b H y.1) ∧ ∃ cs, W.cells? base (a.add (i * s)) s = some cs ∧ RepL (GW W) (f b) cs ∧ ∀ u ∈ cs, u.oneCell' = true := fun i hi => by
      have h1 := hel i hi
      rw [List.getElem?_eq_getElem (by omega), hc, Option.bind_eq_some_iff] at h1
      obtain ⟨cs, h2, h3⟩ := h1
      obtain ⟨b, h4, h5, h6⟩ := he h3
      exact ⟨b, fun y hy => by rw [List.getElem?_eq_getElem (by omega)] at hy; rw [← Option.some.inj hy]; exact h4, cs, h2, h5, h6⟩
    obtain ⟨l, hll, hlr⟩ := forall_lists len each
    refine ⟨l, .inr ⟨_, _, by rw [ex], by rw [hll]; exact Nat.le_trans hl hm, by rw [List.length_map, hlen, hll], fun i b y hb hy => ?_⟩, ?_, by simp [Value.oneCell']⟩
    · rw [List.getElem?_map] at hy
      cases hq : elems[i]? with
      | none => rw [hq] at hy; cases hy
      | some z =>
        rw [hq] at hy
        obtain rfl := Option.some.inj hy
        exact (hlr i b hb).1 z hq
    simp only [RepL]
    refine ⟨_, [], rfl, ?_, rfl⟩
    simp only [sl, Rep]
    refine ⟨some a, cap, by rw [hll], by omega, hm, by simp, ?_⟩
    by_cases h0 : len = 0
    · left; have : l = [] := by rw [← List.length_eq_zero_iff]; omega
      subst this; rfl
    · right
      have hspot : a = ⟨a.block, a.off, none⟩ := by
        obtain ⟨b, hb⟩ : ∃ b, l[0]? = some b := ⟨_, List.getElem?_eq_getElem (by omega)⟩
        obtain ⟨_, cs, h2, _⟩ := hlr 0 b hb
        have h3 := (World.cells?_some h2).2.2 0 hf.pos
        simp only [Nat.zero_mul] at h3
        have h4 : W.cell? a ≠ none := by
          have : (a.add 0).add 0 = a := by simp [Addr.add]
          rw [this] at h3
          rw [h3]
          have := (World.cells?_some h2).2.1
          intro hq
          have := hf.pos
          have hq2 : cs.length ≤ 0 := by simpa using hq
          omega
        obtain ⟨blk, off, spot⟩ := a
        cases spot with
        | none => rfl
        | some q => simp [World.cell?] at h4; split at h4 <;> simp_all
      refine ⟨a.block, a.off, by rw [← hspot], ?_⟩
      refine RepK.of_get fun k c hk => ?_
      have hkl : k < (cl f l).length := (List.getElem?_eq_some_iff.1 hk).1
      rw [cl_len (f := f)] at hkl
      have hs := hf.pos
      have hdm : k = (k / s) * s + k % s := by rw [Nat.mul_comm]; exact (Nat.div_add_mod k s).symm
      have hml : k % s < s := Nat.mod_lt _ hs
      rw [hdm, cl_getq (f := f) l _ _ hml] at hk
      rw [Option.bind_eq_some_iff] at hk
      obtain ⟨b, hb, hbc⟩ := hk
      obtain ⟨_, cs, h2, h3, h4⟩ := hlr _ b hb
      obtain ⟨u, hu1, hu2⟩ := h3.get _ c hbc
      refine ⟨u, ?_, h4 u (List.mem_of_getElem? hu1), hu2⟩
      have h5 := (World.cells?_some h2).2.2 (k % s) hml
      rw [hu1] at h5
      rw [hspot] at h5
      show W.cell? ⟨a.block, a.off + k, none⟩ = some u
      rw [← h5]
      rw [addr_add2, Nat.add_assoc, ← hdm]
end
/-- An argument of a type reads as a shadow value, and as data. -/
def AX (P : Program) (t : TypeId) {α : Type} (g : α → C) (R : Rel α) : Prop :=
  ∀ {H : Type} {enc : TypeId × Value → H} {W : World} {base b0 : Nat} {sp : Nat → Bool} {held : Bool} {v : Value} {d : DataW H} {ps : List MemPlace},
    Value.okWide P W .any b0 t v → DataW.Trod enc P W base sp held t v d ps → ∃ a, R a H d ∧ Rep (GW W) (g a) v
section
variable {P : Program} {t e : TypeId}
theorem ax_one {α : Type} {f : α → List C} {g : α → C} {R : Rel α} (hg : ∀ a, f a = [g a]) (hr : Rdx P t f R) (hu : ∀ u, P.underlying t = some u → (match u with | .struct _ | .array _ _ => False | _ => True)) : AX P t g R := fun {H enc W base b0 sp held v d ps} hval hd => by
  obtain ⟨fuel, hd⟩ := hd
  obtain ⟨a, h1, h2, _⟩ := hr hd
  rw [hg] at h2
  simp only [RepL] at h2
  obtain ⟨u, vs, h3, h4, rfl⟩ := h2
  refine ⟨a, h1, ?_⟩
  cases v with
  | agg cs =>
    exfalso
    unfold Value.okWide at hval
    cases hq : P.underlying t with
    | none => rw [hq] at hval; simp [Cell.okWide, Cell.ok, hq] at hval
    | some u =>
      have := hu u hq
      rw [hq] at hval
      cases u <;> simp_all [Cell.okWide, Cell.ok]
  | _ =>
    simp only [Value.cells, List.cons.injEq, and_true] at h3
    rw [h3]; exact h4
theorem ax_int {s y : Nat} {z : List Value} (h : td P t = some ⟨.int .i64, s, y, z⟩) : AX P t (fun n : Int => .val (.int .i64 n)) RI :=
  ax_one (f := iC) (fun _ => rfl) (rdx_int (td_spec h).1) fun u hu => by rw [(td_spec h).1] at hu; cases hu; trivial
theorem ax_slice {α : Type} {f : α → List C} {R : Rel α} {s0 s y : Nat} [hf : Cel f s0] {z : List Value} (h : td P t = some ⟨.slice e, s, y, z⟩) (hc : P.cellsOf e = s0) (he : Rdx P e f R) : AX P t (fun l : List α => sl f .no l) (RL R) :=
  ax_one (f := fun l => [sl f .no l]) (fun _ => rfl) (rdx_slice (td_spec h).1 hc he) fun u hu => by rw [(td_spec h).1] at hu; cases hu; trivial
end
/-! What the sizes say. -/
section
variable {H : Type} {P : Program} {ts : List TypeId} {ds : List (DataW H)} (h : (DataW.weightsEach P ts ds).all (· ≤ reachBytes) = true)
include h
end
/-- How much data holds; as the statements' own count does. -/
structure BulkOK {H : Type} (B : DataW H → Nat) (BA : List (DataW H) → Nat) : Prop where
  one : ∀ d, 1 ≤ B d
  str : ∀ s, B (.lit (.string s)) = s.length + 1
  slice : ∀ e s, B (.slice e s) = BA e + BA s + 1
  agg : ∀ e, B (.agg e) = BA e + 1
  nil : BA [] = 0
  cons : ∀ d r, BA (d :: r) = B d + BA r
section
variable {H : Type} {B : DataW H → Nat} {BA : List (DataW H) → Nat} (hB : BulkOK B BA)
include hB
end
section
variable {K : Checked} {os : Os} {H : Type} {enc : TypeId × Value → H} {fi : Nat} {fn : Func} {fresh handsOn again : Bool} {gl : Nat → C} {t : TypeId}
theorem trodAll_len {P : Program} {W : World} : ∀ (ts : List TypeId) (vs : List Value) (ds : List (DataW H)) (ps : List MemPlace), DataW.TrodAll enc P W 0 (fun _ => true) true ts vs ds ps → ds.length = ts.length
  | [], vs, ds, ps, h => by cases vs <;> cases ds <;> simp_all [DataW.TrodAll]
  | t :: ts, vs, ds, ps, h => by
    cases vs <;> cases ds <;> simp only [DataW.TrodAll] at h
    obtain ⟨p, q, _, h4, _⟩ := h
    simp [trodAll_len _ _ _ _ h4]
/-- A law whose contract says that it returns true, over no listed variables; the sizes are handed on. -/
theorem law_plain (started : os.Started) {a : Assume} {s : ChangeSpec}
    (own : ownKnob K.prog.godebug = none) (noInit : K.prog.inits.idxOf? fi = none) (hfn : K.prog.funcs[fi]? = some fn)
    (hl : laidOutB K.prog = true) (hm : mapsRowed K.prog = true) (hsl : slicesB K.prog = true) (hps : (fn.params.toList.all fun t => decide (t < K.prog.types.size)) = true)
    (hv : s.vars = []) (hs : ∀ ds : List (DataW H), ds.length = fn.params.size → s.fn H ds = { results := [.lit (.bool true)], args := ds }) (hr : fn.resultTypes = #[t]) (ht : K.prog.underlying t = some .bool)
    (witness : ∃ (w : World) (tape : Tape) (i : Input), w.os = os ∧ (w.forCall tape i).Shaped K.prog ∧ i.vars = [] ∧ Input.okWide K.prog (w.forCall tape i) .any w.heap.size fi i ∧
      s.pre6 enc K.prog fn [] false (w.forCall tape i).memory i.args ∧ a.holds K.prog (lone (Frame.enter K.prog fi i.args .normal) [] (w.forCall tape i)))
    (hgl : ∀ W g, Rep (GW W) (gl g) (.pointer (some ⟨g, 0, none⟩)))
    (hc : ∀ (W : World) (b0 : Nat) (args : Array Value) (ds : List (DataW H)) (p : List MemPlace), (∀ (j : Nat) t v, fn.params.toList[j]? = some t → args.toList[j]? = some v → Value.okWide K.prog W .any b0 t v) →
      DataW.TrodAll enc K.prog W 0 (fun _ => true) true fn.params.toList args.toList ds p → (DataW.weightsEach K.prog fn.params.toList ds).all (· ≤ reachBytes) = true → ∃ as, RepL (GW W) as args.toList ∧ FC K.prog gl fi as [] (.val (.bool true)) []) :
    ReturnsInHanded a K os fi .any (s.pre6 enc K.prog fn [] false) (s.post enc K.prog fn false fresh handsOn again) := by
  refine returnsInHanded_of_change_sized (C := K) own started noInit hfn witness ?_
  intro W base args ds gs before hval hW _ hsz _
  have hW' := hW
  obtain ⟨p, q, h1, h2, rfl, hz, hn⟩ := hW'
  rw [hv] at h2
  obtain ⟨rfl, rfl⟩ := trodVars_none h2
  have hvt : s.plain.varTypes K.prog = [] := by
    show (s.vars.filterMap _) = []
    rw [hv]; rfl
  rw [hvt, List.append_nil, List.append_nil] at hsz
  obtain ⟨as, has, hfc⟩ := hc W base args ds p (fun j t v hj hv => hval j t v (by simpa using hj) (by simpa using hv)) h1 hsz
  refine (hfc.2 (GW W) W args (GW_ok W) (fun g p h => by cases h) (hgl W) has).mono ?_
  rintro e W' ⟨v, G', rfl, hrep, _, _, F⟩
  rw [rep_val] at hrep
  subst hrep
  have hold : ∀ g < W.heap.size, W'.heap[g]? = W.heap[g]? := fun g hg => (F.old g hg rfl (fun b h => by cases h)).1
  refine ⟨_, rfl, law_post hl hm hsl (fun t ht => ?_) hW hv (hs ds (by rw [trodAll_len _ _ _ _ h1]; simp)) hr ht F.os F.output hold⟩
  have := List.all_eq_true.1 hps t ht
  simpa using this
end
end Go.Sx
namespace Go.Sx
open Go.RowKit Go.ChangeShapes Go.WideShapes
end Go.Sx
namespace Go.Sx
open Go.RowKit
end Go.Sx
namespace Go.Sx
open Go.RowKit
def Cx.grow (cx : Cx) (l : List Nat) : Cx := { cx with gr := fun t => l.contains t }
section
variable {cx : Cx} {n : Nat} {st : St} {Q : Ex → St → Prop} {G : Gh} {w : World} {h : Hp}
theorem CxOK.grow (hcx : CxOK cx) (l : List Nat) : CxOK (cx.grow l) := ⟨hcx.glo, hcx.pu, hcx.hp⟩
theorem Sim.grow {a : Act} (H : Sim cx G w st a) (l : List Nat) : Sim (cx.grow l) G w st a := ⟨H.defers, H.size, H.pre.ok, H.pre.env, H.pre.glob⟩
theorem Sim.ungrow {a : Act} {l : List Nat} (H : Sim (cx.grow l) G w st a) : Sim cx G w st a := ⟨H.defers, H.size, H.pre.ok, H.pre.env, H.pre.glob⟩
theorem Tr.gw (l : List Nat) {c : Code} (H : Tr (cx.grow l) n c st Q) : Tr cx n c st Q := fun G w a S R hR =>
  H G w a (S.grow l) R fun x s G' w' a' q S' F => hR x s G' w' a' q S'.ungrow F
theorem Tr.rgG (hcx : CxOK cx) (gs : List Nat) {e : List (Nat × C)} {id : Nat} {l : List Oper} (apps : List Nat) (dsts : List (Option Nat)) (z : Hp) (h1 : l.filterMap appOf = apps) (h2 : l.map (·.dst) = dsts) (h3 : nones l = z)
    (H : run (cx.grow gs) apps dsts l h.length e (h ++ z) [] (fun _ s => Q .normal s)) : Tr cx n (.region id l.toArray false) ⟨A e, h⟩ Q :=
  Tr.gw gs (Tr.rg (hcx.grow gs) apps dsts z h1 h2 h3 H)
/-- A box that stands nowhere: for a slice that is nil yet. -/
theorem Tr.virt {c : Code} (H : Tr cx n c ⟨st.env, st.h ++ [some []]⟩ Q) : Tr cx n c st Q := fun G w a S R hR =>
  H G w a ⟨S.defers, S.size, S.pre.ok.virt, S.pre.env, S.pre.glob⟩ R hR
theorem CLe.nilG (b s : Nat) : CLe (.val (.slice none 0 0)) (.gv b 0 s) :=
  ⟨fun G v h => by rw [rep_val] at h; simp only [Rep]; exact ⟨none, 0, h, Nat.le_refl _, Nat.zero_le _, .inl ⟨trivial, rfl⟩⟩, fun s n xs e => by cases e⟩
/-! Renaming. -/
def loc : List Nat → Nat → Nat → Option Nat
  | [], _, _ => none
  | x :: r, k, b => if b = x then some k else loc r (k + 1) b
theorem loc_some : ∀ {ρ : List Nat} {k b j : Nat}, loc ρ k b = some j → k ≤ j ∧ ρ[j - k]? = some b
  | [], k, b, j, h => by cases h
  | x :: r, k, b, j, h => by
    simp only [loc] at h
    split at h
    · rename_i e; cases h; subst e; simp
    · obtain ⟨h1, h2⟩ := loc_some h
      refine ⟨by omega, ?_⟩
      have : j - k = (j - (k + 1)) + 1 := by omega
      rw [this, List.getElem?_cons_succ]; exact h2
mutual
def mvC (ρ : List Nat) : C → C
  | .sv b o n => match loc ρ 0 b with | some j => .sv j o n | none => .top
  | .gv b n s => match loc ρ 0 b with | some j => .gv j n s | none => .top
  | .bp b o => match loc ρ 0 b with | some j => .bp j o | none => .top
  | .sl r n xs => .sl r n (mvCs ρ xs)
  | .kp xs => .kp (mvCs ρ xs)
  | .agg xs => .agg (mvCs ρ xs)
  | .tup xs => .tup (mvCs ρ xs)
  | .fn f xs => .fn f (mvCs ρ xs)
  | .top => .top
  | .val v => .val v
def mvCs (ρ : List Nat) : List C → List C
  | [] => []
  | x :: xs => mvC ρ x :: mvCs ρ xs
end
theorem mvCs_map (ρ : List Nat) : ∀ xs : List C, mvCs ρ xs = xs.map (mvC ρ)
  | [] => rfl
  | x :: xs => by simp [mvCs, mvCs_map ρ xs]
def mvH (ρ : List Nat) (h : Hp) : Hp := ρ.map fun b => ((h[b]?).getD none).map (mvCs ρ)
def mvG (ρ : List Nat) (G : Gh) : Gh where
  K := G.K
  μ := fun j => (ρ[j]?).bind G.μ
  T := fun g => match G.T g with
    | some p => if p.1 = 1 then (loc ρ 0 p.2.1).map (fun j => (1, j, p.2.2)) else some p
    | none => none
  σ := fun j => (ρ[j]?).bind G.σ
mutual
theorem mvC_rep {ρ : List Nat} : ∀ (c : C) (v : Value), Rep G c v → Rep (mvG ρ G) (mvC ρ c) v
  | .top, _, _ => by simp [mvC, Rep]
  | .val u, v, r => by simpa [mvC, Rep] using r
  | .sl r n xs, v, x => by
    simp only [mvC, Rep] at x ⊢
    obtain ⟨a, cap, h1, h2, h3, h4, h5⟩ := x
    refine ⟨a, cap, h1, h2, h3, h4, ?_⟩
    rcases h5 with h5 | ⟨blk, off, ha, hk⟩
    · left; rw [h5]; rfl
    · exact .inr ⟨blk, off, ha, mvC_repK xs blk off hk⟩
  | .sv b off n, v, x => by
    simp only [mvC]
    cases hl : loc ρ 0 b with
    | none => simp [Rep]
    | some j =>
      have hj := (loc_some hl).2
      simp only [Rep] at x ⊢
      obtain ⟨a, cap, h1, h2, h3, h4⟩ := x
      exact ⟨a, cap, h1, h2, h3, fun hz => by obtain ⟨blk, q1, q2⟩ := h4 hz; exact ⟨blk, by simp only [mvG, Nat.sub_zero] at hj ⊢; rw [hj]; exact q1, q2⟩⟩
  | .gv b m s, v, x => by
    simp only [mvC]
    cases hl : loc ρ 0 b with
    | none => simp [Rep]
    | some j =>
      have hj := (loc_some hl).2
      simp only [Nat.sub_zero] at hj
      simp only [Rep] at x ⊢
      obtain ⟨a, cap, h1, h2, h3, h4⟩ := x
      refine ⟨a, cap, h1, h2, h3, ?_⟩
      rcases h4 with h4 | ⟨blk, q1, q2, q3⟩
      · exact .inl h4
      · exact .inr ⟨blk, by simp only [mvG]; rw [hj]; exact q1, q2, by simp only [mvG]; rw [hj]; exact q3⟩
  | .bp b off, v, x => by
    simp only [mvC]
    cases hl : loc ρ 0 b with
    | none => simp [Rep]
    | some j =>
      have hj := (loc_some hl).2
      simp only [Nat.sub_zero] at hj
      simp only [Rep] at x ⊢
      obtain ⟨blk, h1, h2⟩ := x
      exact ⟨blk, by simp only [mvG]; rw [hj]; exact h1, h2⟩
  | .kp xs, v, x => by
    simp only [mvC, Rep] at x ⊢
    obtain ⟨blk, off, h1, h2⟩ := x
    exact ⟨blk, off, h1, mvC_repK xs blk off h2⟩
  | .agg xs, v, x => by
    simp only [mvC, Rep] at x ⊢
    obtain ⟨vs, h1, h2, h3⟩ := x
    exact ⟨vs, h1, mvC_repL xs _ h2, h3⟩
  | .tup xs, v, x => by
    simp only [mvC, Rep] at x ⊢
    obtain ⟨vs, h1, h2⟩ := x
    exact ⟨vs, h1, mvC_repL xs _ h2⟩
  | .fn f xs, v, x => by
    simp only [mvC, Rep] at x ⊢
    obtain ⟨vs, h1, h2⟩ := x
    exact ⟨vs, h1, mvC_repL xs _ h2⟩
theorem mvC_repL {ρ : List Nat} : ∀ (xs : List C) (vs : List Value), RepL G xs vs → RepL (mvG ρ G) (mvCs ρ xs) vs
  | [], vs, r => by simpa [mvCs, RepL] using r
  | x :: xs, vs, r => by
    simp only [mvCs, RepL] at r ⊢
    obtain ⟨v, vs', h1, h2, h3⟩ := r
    exact ⟨v, vs', h1, mvC_rep x v h2, mvC_repL xs vs' h3⟩
theorem mvC_repK {ρ : List Nat} : ∀ (xs : List C) (blk off : Nat), RepK G blk off xs → RepK (mvG ρ G) blk off (mvCs ρ xs)
  | [], _, _, _ => by simp [mvCs, RepK]
  | x :: xs, blk, off, r => by
    simp only [mvCs, RepK] at r ⊢
    obtain ⟨⟨u, h1, h2, h3⟩, h4⟩ := r
    exact ⟨⟨u, h1, h2, mvC_rep x u h3⟩, mvC_repK xs blk (off + 1) h4⟩
end
theorem mvC_own {ρ : List Nat} {c : C} {s m : Nat} {xs : List C} (h : mvC ρ c = .sl (.own s) m xs) : ∃ ys, c = .sl (.own s) m ys := by
  cases c with
  | sl r k ys => simp only [mvC] at h; cases h; exact ⟨ys, rfl⟩
  | sv b o k => simp only [mvC] at h; split at h <;> cases h
  | gv b o k => simp only [mvC] at h; split at h <;> cases h
  | bp b o => simp only [mvC] at h; split at h <;> cases h
  | _ => simp only [mvC] at h; cases h
theorem mvH_at {ρ : List Nat} {j : Nat} {cells : List C} (hj : Hp.at (mvH ρ h) j = some cells) : ∃ b cells0, ρ[j]? = some b ∧ h.at b = some cells0 ∧ cells = mvCs ρ cells0 := by
  have h1 := Hp.at_some hj
  unfold mvH at h1
  rw [List.getElem?_map] at h1
  cases hb : ρ[j]? with
  | none => rw [hb] at h1; cases h1
  | some b =>
    rw [hb] at h1
    simp only [Option.map_some, Option.some.injEq] at h1
    cases hq : h[b]? with
    | none => rw [hq] at h1; cases h1
    | some o =>
      rw [hq] at h1
      cases o with
      | none => cases h1
      | some cells0 =>
        simp only [Option.getD_some, Option.map_some, Option.some.injEq] at h1
        refine ⟨b, cells0, rfl, ?_, h1.symm⟩
        have hl := Hp.at_live hj
        unfold Hp.at
        rw [hq]
        subst h1
        show liveC (some cells0) = _
        cases cells0 with
        | nil => rfl
        | cons x l =>
          cases x with
          | tup xs => simp only [mvCs, mvC] at hl; cases hl
          | _ => rfl
def okρ (n : Nat) (ρ : List Nat) : Prop := ρ.Nodup ∧ n ≤ ρ.length ∧ ∀ j, j < n → ρ[j]? = some j
theorem loc_of : ∀ {ρ : List Nat} {k j b : Nat}, ρ.Nodup → ρ[j]? = some b → loc ρ k b = some (k + j)
  | x :: r, k, 0, b, hn, h => by simp at h; subst h; simp [loc]
  | x :: r, k, j + 1, b, hn, h => by
    rw [List.getElem?_cons_succ] at h
    have hx : b ≠ x := fun e => by
      subst e
      exact (List.nodup_cons.1 hn).1 (List.mem_of_getElem? h)
    simp only [loc]
    rw [if_neg hx, loc_of (List.nodup_cons.1 hn).2 h]
    congr 1; omega
  | [], k, j, b, hn, h => by simp at h
theorem OwnRow.mv {ρ : List Nat} {p p' : Place} {v : Value} {s m : Nat} (O : OwnRow G w p v s m) (hp : (p.1 ≠ 1 ∧ p' = p) ∨ (p.1 = 1 ∧ ∃ j, loc ρ 0 p.2.1 = some j ∧ p' = (1, j, p.2.2))) : OwnRow (mvG ρ G) w p' v s m := by
  rcases O with O | ⟨g, cap, cur, e, a1, a2, a3, a4, a5, a6⟩
  · exact .inl O
  · refine .inr ⟨g, cap, cur, e, a1, ?_, a3, a4, a5, fun b hb => ?_⟩
    · simp only [mvG, a2]
      rcases hp with ⟨h1, rfl⟩ | ⟨h1, j, h2, rfl⟩
      · rw [if_neg h1]
      · rw [if_pos h1, h2]; rfl
    · simp only [mvG] at hb
      cases hq : ρ[b]? with
      | none => rw [hq] at hb; cases hb
      | some q => rw [hq] at hb; exact a6 q hb
theorem WorldOK.mv {ρ : List Nat} (H : WorldOK G h w) (hρ : ρ.Nodup) : WorldOK (mvG ρ G) (mvH ρ h) w := by
  have hμ : ∀ {j blk}, (mvG ρ G).μ j = some blk → ∃ b, ρ[j]? = some b ∧ G.μ b = some blk := fun {j blk} x => by
    simp only [mvG] at x
    cases hq : ρ[j]? with
    | none => rw [hq] at x; cases x
    | some q => rw [hq] at x; exact ⟨q, rfl, x⟩
  refine ⟨H.known, fun j cells hj => ?_, fun j blk hm => ?_, fun j j' c c' blk hj hj' hm hm' => ?_, fun j blk hm => ?_, fun g p hg => ?_, fun j cells off s m xs blk v hj hc hm hv => ?_, fun j z hz => ?_⟩
  · obtain ⟨b, cells0, h1, h2, rfl⟩ := mvH_at hj
    rcases H.box b cells0 h2 with ⟨hE, hE2⟩ | ⟨blk, cs, e, q1, q2, q3, q4, q5⟩
    · exact .inl ⟨by rw [hE]; rfl, by simp only [mvG, h1]; exact hE2⟩
    · have hl : (mvCs ρ cells0).length = cells0.length := by rw [mvCs_map]; simp
      exact .inr ⟨blk, cs, e, by simp only [mvG, h1]; exact q1, q2, by rw [hl]; exact q3, by rw [hl]; exact mvC_repL _ _ q4, q5⟩
  · obtain ⟨b, h1, h2⟩ := hμ hm
    obtain ⟨⟨c, hc⟩, hl⟩ := H.dom b blk h2
    refine ⟨⟨mvCs ρ c, ?_⟩, hl⟩
    unfold mvH
    rw [List.getElem?_map, h1]
    simp [hc]
  · obtain ⟨b, h1, h2⟩ := hμ hm
    obtain ⟨b', h1', h2'⟩ := hμ hm'
    obtain ⟨q, cells0, g1, g2, _⟩ := mvH_at hj
    obtain ⟨q', cells0', g1', g2', _⟩ := mvH_at hj'
    rw [h1] at g1; cases g1
    rw [h1'] at g1'; cases g1'
    have e := H.inj b b' _ _ blk g2 g2' h2 h2'
    subst e
    have l1 := loc_of (k := 0) hρ h1
    have l2 := loc_of (k := 0) hρ h1'
    rw [l1] at l2
    simpa using l2
  · obtain ⟨b, h1, h2⟩ := hμ hm
    obtain ⟨s1, s2⟩ := H.sep b blk h2
    exact ⟨s1, by simp only [mvG, s2]⟩
  · cases hq : G.T g with
    | none => simp only [mvG, hq] at hg; cases hg
    | some q => exact H.tlt g q hq
  · obtain ⟨b, cells0, h1, h2, rfl⟩ := mvH_at hj
    obtain ⟨b', h1', h2'⟩ := hμ hm
    rw [h1] at h1'; cases h1'
    rw [mvCs_map, List.getElem?_map] at hc
    cases hq : cells0[off]? with
    | none => rw [hq] at hc; cases hc
    | some y =>
      rw [hq] at hc
      simp only [Option.map_some, Option.some.injEq] at hc
      obtain ⟨ys, rfl⟩ := mvC_own hc
      have O := H.own b cells0 off s m ys blk v h2 hq h2' hv
      have l1 := loc_of (k := 0) hρ h1
      exact O.mv (.inr ⟨rfl, j, by simpa using l1, rfl⟩)
  · simp only [mvG] at hz
    cases hq : ρ[j]? with
    | none => rw [hq] at hz; cases hz
    | some b =>
      rw [hq] at hz
      obtain ⟨blk, cs, e, fr, q1, q2, q3⟩ := H.siz b z hz
      exact ⟨blk, cs, e, fr, by simp only [mvG, hq]; exact q1, q2, q3⟩
theorem frmN_mv {ρ : List Nat} (hρ : okρ n ρ) : FrmN n G w (mvG ρ G) w :=
  ⟨rfl, rfl, rfl, Nat.le_refl _, fun _ _ _ x => x, fun b k hb x => by simp only [mvG]; rw [hρ.2.2 b hb]; exact x, fun b k hb x => by simp only [mvG]; rw [hρ.2.2 b hb]; exact x,
    fun g _ ht hm => ⟨rfl, by simp only [mvG, ht], fun j hj => by
      simp only [mvG] at hj
      cases hq : ρ[j]? with
      | none => rw [hq] at hj; cases hj
      | some q => rw [hq] at hj; exact hm q hj, fun _ => rfl⟩⟩
theorem mvC_noRef {ρ : List Nat} {c : C} {v : Value} (hc : noRef 0 c = true) (h : Rep G c v) : Rep (mvG ρ G) c v := by
  have h1 := noRef_rep c v hc h
  have le : (cutμ G 0).Le (mvG ρ G) := ⟨fun _ _ _ x => x, fun b k x => by simp [cutμ] at x, fun b k x => by simp [cutμ] at x⟩
  exact h1.mono le
theorem Sim.mv (hcx : CxOK cx) {a : Act} {ρ : List Nat} (hρ : ρ.Nodup) (H : Sim cx G w st a) : Sim cx (mvG ρ G) w ⟨fun t => mvC ρ (st.env t), mvH ρ st.h⟩ a :=
  ⟨H.defers, H.size, H.pre.ok.mv hρ, ⟨fun t => mvC_rep _ _ (H.pre.env.1 t), fun t s m xs e => by
    obtain ⟨ys, hy⟩ := mvC_own e
    exact (H.pre.env.2 t s m ys hy).mv (.inl ⟨by simp, rfl⟩)⟩, fun g => mvC_noRef (hcx.glo g) (H.pre.glob g)⟩
/-- Boxes renamed, or dropped. -/
theorem Tr.mv (hcx : CxOK cx) {c : Code} (ρ : List Nat) (hρ : okρ n ρ) (H : Tr cx n c ⟨fun t => mvC ρ (st.env t), mvH ρ st.h⟩ Q) : Tr cx n c st Q := fun G w a S R hR =>
  H (mvG ρ G) w a (S.mv hcx hρ.1) R fun x s G' w' a' q S' F => hR x s G' w' a' q S' ((frmN_mv hρ).trans F)
/-- The same at a join. -/
def MvQ (n : Nat) (P : St → Prop) (s : St) : Prop := ∃ ρ : List Nat, okρ n ρ ∧ P ⟨fun t => mvC ρ (s.env t), mvH ρ s.h⟩
theorem Tr.loopM {α : Type} (hcx : CxOK cx) (I : α → List (Nat × C)) (H : α → Hp) (ok : α → Prop) (μ : α → Nat) {c : Code} (a : α) (h0 : ok a) (hl : Le st.env (I a)) (hh : st.h = H a)
    (hb : ∀ a, ok a → Tr cx n c ⟨A (I a), H a⟩ (thenQ (MvQ n (At I H fun a' => ok a' ∧ μ a' < μ a)) Q)) : Tr cx n (.loop c) st Q := by
  refine Tr.loop (fun m s => ∃ ρ, okρ n ρ ∧ ∃ a, μ a = m ∧ ok a ∧ Le (fun t => mvC ρ (s.env t)) (I a) ∧ mvH ρ s.h = H a ∨ (μ a = m ∧ ok a ∧ Le s.env (I a) ∧ s.h = H a)) (μ a) ⟨List.range n, ⟨List.nodup_range, by simp, fun j hj => by simp [hj]⟩, a, .inr ⟨rfl, h0, hl, hh⟩⟩ ?_
  rintro m s ⟨ρ, hρ, a, ⟨rfl, h1, h2, h3⟩ | ⟨rfl, h1, h2, h3⟩⟩
  · refine Tr.mv hcx ρ hρ (Tr.live _ h2 ?_)
    rw [h3]
    refine (hb a h1).mono fun e s q => ?_
    cases e with
    | normal =>
      obtain ⟨ρ', hρ', a', ⟨q1, q2⟩, q3, q4⟩ := q
      exact ⟨μ a', q2, ρ', hρ', a', .inl ⟨rfl, q1, q3, q4⟩⟩
    | exit id => exact q
    | ret => exact q
  · refine Tr.live _ h2 ?_
    rw [h3]
    refine (hb a h1).mono fun e s q => ?_
    cases e with
    | normal =>
      obtain ⟨ρ', hρ', a', ⟨q1, q2⟩, q3, q4⟩ := q
      exact ⟨μ a', q2, ρ', hρ', a', .inl ⟨rfl, q1, q3, q4⟩⟩
    | exit id => exact q
    | ret => exact q
end
end Go.Sx
