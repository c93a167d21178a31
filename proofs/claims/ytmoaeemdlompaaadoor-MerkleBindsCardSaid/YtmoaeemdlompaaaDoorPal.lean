/-
   And what follows.
-/
import Derived.ChangeSame
import Derived.ChangeVars
import Derived.ChangeStays
import Derived.ChangeOld
import Derived.ChangeArms
import Derived.OpenShut
import Derived.RowKit
import Derived.JoinedOf
import Derived.Handed
import Derived.LaidLaws
import Derived.LaidMore
import Derived.KernelRfl
import Derived.LaidHandle
import Derived.MakeChecks
import Derived.Stop.Joined
import Derived.Lib.SlBytesConst
import Derived.SizedLaws
import Derived.JoinedCond
import Derived.Deep.CondSized
import Derived.Below
import Derived.Test.YtmoaeemdlompaaaDoorPak
set_option linter.unusedSimpArgs false
set_option linter.unusedVariables false
namespace Go.Sx
open Go.RowKit Go.ChangeShapes Go.WideShapes
def GW (W : World) : Gh := ⟨fun b o => W.cell? ⟨b, o, none⟩, fun _ => none, fun _ => none, fun _ => none⟩
theorem GW_ok (W : World) : WorldOK (GW W) [] W :=
  ⟨fun _ _ _ h => h, fun b cells h => (by simp [Hp.at] at h), fun b blk h => (by cases h), fun b b' c c' blk _ _ h => (by cases h), fun b blk h => (by cases h), fun g p h => (by cases h),
    fun b cells off s n xs blk v h => (by simp [Hp.at] at h), fun b z h => (by cases h), fun b l h => (by simp [Hp.mp] at h), fun b b' l l' blk h => (by simp [Hp.mp] at h)⟩
def Rds (P : Program) (t : TypeId) {α : Type} (f : α → List C) (ok : α → Prop) : Prop :=
  ∀ {H : Type} {enc : TypeId × Value → H} {W : World} {base : Nat} {sp : Nat → Bool} {held : Bool} {fuel : Nat} {cs : List Value} {x : DataW H × List MemPlace},
    DataW.trod enc P W base sp held fuel t cs = some x → ∃ a, ok a ∧ RepL (GW W) (f a) cs ∧ ∀ u ∈ cs, u.oneCell' = true
section
variable {P : Program} {t e : TypeId}
theorem rds_val {c v : Value} {G : Gh} (h : v = c) : RepL G [.val c] [v] := by
  simp only [RepL, Rep]; exact ⟨v, [], rfl, h, rfl⟩
theorem rds_int (ht : P.underlying t = some (.int .i64)) : Rds P t iC fun n => -9223372036854775808 ≤ n ∧ n ≤ 9223372036854775807 := fun h => by
  obtain ⟨n, rfl, _, hw⟩ := DataW.trod_int ht h
  refine ⟨n, ?_, rds_val rfl, by simp [Value.oneCell']⟩
  simpa [Lit.wf, IntKind.min, IntKind.max, IntKind.signed, IntKind.bits] using hw
theorem addr_add2 (b o x y : Nat) : ((⟨b, o, none⟩ : Addr).add x).add y = ⟨b, o + x + y, none⟩ := by
  simp only [Addr.add]
  by_cases hx : x = 0 <;> by_cases hy : y = 0 <;> simp [hx, hy]
theorem forall_lists {α : Type} {R : Nat → α → Prop} : ∀ n, (∀ i < n, ∃ a, R i a) → ∃ l : List α, l.length = n ∧ ∀ i a, l[i]? = some a → R i a
  | 0, _ => ⟨[], rfl, by simp⟩
  | n + 1, h => by
    obtain ⟨l, h1, h2⟩ := forall_lists n (fun i hi => h i (by omega))
    obtain ⟨a, ha⟩ := h n (by omega)
    refine ⟨l ++ [a], by simp [h1], fun i b hb => ?_⟩
    rw [List.getElem?_append] at hb
    split at hb
    · exact h2 i b hb
    · rename_i hi
      have : i = n := by
        have := (List.getElem?_eq_some_iff.1 hb).1
        simp at this; omega
      subst this
      simp [h1] at hb; subst hb; exact ha
theorem cl_getq {α : Type} {f : α → List C} {s : Nat} [hf : Cel f s] (l : List α) (i j : Nat) (hj : j < s) : (cl f l)[i * s + j]? = (l[i]?).bind fun a => (f a)[j]? := by
  have h1 : (cl f l)[i * s + j]? = ((cl f l).drop (i * s))[j]? := by rw [List.getElem?_drop]
  rw [h1, cl_drop]
  cases hq : l[i]? with
  | none =>
    rw [List.drop_of_length_le (by simpa using hq)]; rfl
  | some a =>
    obtain ⟨hi, rfl⟩ := List.getElem?_eq_some_iff.1 hq
    rw [List.drop_eq_getElem_cons hi, cl_cons, List.getElem?_append_left (by rw [hf.len]; exact hj)]; rfl
theorem rds_slice {α : Type} {f : α → List C} {ok : α → Prop} {s : Nat} [hf : Cel f s] (ht : P.underlying t = some (.slice e)) (hc : P.cellsOf e = s) (he : Rds P e f ok) :
    Rds P t (fun l : List α => [sl f .no l]) fun l => l.length ≤ 9223372036854775807 ∧ ∀ a ∈ l, ok a := fun {H enc W base sp held fuel cs x} h => by
  rcases DataW.trod_slice ht h with ⟨rfl, _⟩ | ⟨a, len, cap, elems, rest, n, _, rfl, _, hb, hl, hm, hlen, hel, _, _⟩
  · refine ⟨[], ⟨by simp, by simp⟩, ?_, by simp [Value.oneCell']⟩
    simp only [RepL]
    refine ⟨_, [], rfl, ?_, rfl⟩
    simp only [sl, Rep]
    exact ⟨none, 0, rfl, Nat.le_refl _, Nat.zero_le _, by simp, .inl rfl⟩
  · have each : ∀ i < len, ∃ b, ok b ∧ ∃ cs, W.cells? base (a.add (i * s)) s = some cs ∧ RepL (GW W) (f b) cs ∧ ∀ u ∈ cs, u.oneCell' = true := fun i hi => by
      have h1 := hel i hi
      rw [List.getElem?_eq_getElem (by omega), hc, Option.bind_eq_some_iff] at h1
      obtain ⟨cs, h2, h3⟩ := h1
      obtain ⟨b, h4, h5, h6⟩ := he h3
      exact ⟨b, h4, cs, h2, h5, h6⟩
    obtain ⟨l, hll, hlr⟩ := forall_lists len each
    refine ⟨l, ⟨by rw [hll]; exact Nat.le_trans hl hm, fun b hb => by
      obtain ⟨i, hi⟩ := List.getElem?_of_mem hb
      exact (hlr i b hi).1⟩, ?_, by simp [Value.oneCell']⟩
    simp only [RepL]
    refine ⟨_, [], rfl, ?_, rfl⟩
    simp only [sl, Rep]
    refine ⟨some a, cap, by rw [hll], by omega, hm, by simp, ?_⟩
    by_cases h0 : len = 0
    · left; have : l = [] := by rw [← List.length_eq_zero_iff]; omega
      subst this; rfl
    · right
      have hspot : a = ⟨a.block, a.off, none⟩ := by
        obtain ⟨b, hb⟩ : ∃ b, l[0]? = some b := ⟨_, List.getElem?_eq_getElem (by omega)⟩
        obtain ⟨_, cs, h2, _⟩ := hlr 0 b hb
        have h3 := (World.cells?_some h2).2.2 0 hf.pos
        simp only [Nat.zero_mul] at h3
        have h4 : W.cell? a ≠ none := by
          have : (a.add 0).add 0 = a := by simp [Addr.add]
          rw [this] at h3
          rw [h3]
          have := (World.cells?_some h2).2.1
          intro hq
          have := hf.pos
          have hq2 : cs.length ≤ 0 := by simpa using hq
          omega
        obtain ⟨blk, off, spot⟩ := a
        cases spot with
        | none => rfl
        | some q => simp [World.cell?] at h4; split at h4 <;> simp_all
      refine ⟨a.block, a.off, by rw [← hspot], ?_⟩
      refine RepK.of_get fun k c hk => ?_
      have hkl : k < (cl f l).length := (List.getElem?_eq_some_iff.1 hk).1
      rw [cl_len (f := f)] at hkl
      have hs := hf.pos
      have hdm : k = (k / s) * s + k % s := by rw [Nat.mul_comm]; exact (Nat.div_add_mod k s).symm
      have hml : k % s < s := Nat.mod_lt _ hs
      rw [hdm, cl_getq (f := f) l _ _ hml] at hk
      rw [Option.bind_eq_some_iff] at hk
      obtain ⟨b, hb, hbc⟩ := hk
      obtain ⟨_, cs, h2, h3, h4⟩ := hlr _ b hb
      obtain ⟨u, hu1, hu2⟩ := h3.get _ c hbc
      refine ⟨u, ?_, h4 u (List.mem_of_getElem? hu1), hu2⟩
      have h5 := (World.cells?_some h2).2.2 (k % s) hml
      rw [hu1] at h5
      rw [hspot] at h5
      show W.cell? ⟨a.block, a.off + k, none⟩ = some u
      rw [← h5]
      rw [addr_add2, Nat.add_assoc, ← hdm]
end
section
variable {H : Type} {enc : TypeId × Value → H} {P : Program} {W : World} {base b0 : Nat} {sp : Nat → Bool} {held : Bool} {t : TypeId} {v : Value} {d : DataW H} {ps : List MemPlace}
theorem arg_one {α : Type} {f : α → List C} {g : α → C} {ok : α → Prop} (hg : ∀ a, f a = [g a]) (hr : Rds P t f ok) (hu : ∀ u, P.underlying t = some u → (match u with | .struct _ | .array _ _ => False | _ => True))
    (hval : Value.okWide P W .any b0 t v) (hd : DataW.Trod enc P W base sp held t v d ps) : ∃ a, ok a ∧ Rep (GW W) (g a) v := by
  obtain ⟨fuel, hd⟩ := hd
  obtain ⟨a, h1, h2, _⟩ := hr hd
  rw [hg] at h2
  simp only [RepL] at h2
  obtain ⟨u, vs, h3, h4, rfl⟩ := h2
  refine ⟨a, h1, ?_⟩
  cases v with
  | agg cs =>
    exfalso
    unfold Value.okWide at hval
    cases hq : P.underlying t with
    | none => rw [hq] at hval; simp [Cell.okWide, Cell.ok, hq] at hval
    | some u =>
      have := hu u hq
      rw [hq] at hval
      cases u <;> simp_all [Cell.okWide, Cell.ok]
  | _ =>
    simp only [Value.cells, List.cons.injEq, and_true] at h3
    rw [h3]; exact h4
end
def slicesB (P : Program) : Bool := (List.range P.types.size).all fun t => match P.underlying t with
  | some (.slice e) => decide (0 < P.cellsOf e)
  | _ => true
theorem trodAll_stays {H : Type} {enc : TypeId × Value → H} {P : Program} {W W' : World} {sp : Nat → Bool} (hl : laidOutB P = true) (hm : mapsRowed P = true) (hs : slicesB P = true) :
    ∀ (ts : List TypeId) (vs : List Value) (ds : List (DataW H)) (ps : List MemPlace), (∀ t ∈ ts, t < P.types.size) → DataW.TrodAll enc P W 0 (fun _ => true) true ts vs ds ps →
      (∀ p ∈ ps, W.sameAt W' p) → (∀ p ∈ ps, sp p.block = true) → DataW.TrodAll enc P W' 0 sp true ts vs ds ps
  | [], [], [], ps, _, h, _, _ => h
  | t :: ts, v :: vs, d :: ds, ps, hb, h, h1, h2 => by
    obtain ⟨p, q, ⟨fuel, h3⟩, h4, rfl⟩ := h
    refine ⟨p, q, ⟨fuel, ?_⟩, trodAll_stays hl hm hs ts vs ds q (fun t ht => hb t (List.mem_cons_of_mem _ ht)) h4 (fun p hp => h1 p (List.mem_append_right _ hp)) (fun p hp => h2 p (List.mem_append_right _ hp)), rfl⟩
    refine DataW.trod_stays (T := (· < P.types.size)) (kids_rows hl hm) (fun {t e} ht he => ?_) (fun h => by cases h) (hb t (List.mem_cons_self ..)) h3 (fun p hp => h1 p (List.mem_append_left _ hp)) (fun p hp => h2 p (List.mem_append_left _ hp))
    have := List.all_eq_true.1 hs t (List.mem_range.2 ht)
    rw [he] at this
    simpa using this
  | [], [], _ :: _, _, _, h, _, _ => h.elim
  | [], _ :: _, _, _, _, h, _, _ => h.elim
  | _ :: _, [], _, _, _, h, _, _ => h.elim
  | _ :: _, _ :: _, [], _, _, h, _, _ => h.elim
theorem law_post {H : Type} {enc : TypeId × Value → H} {P : Program} {f : Func} {s : ChangeSpec} {fresh handsOn again : Bool} {W W' : World} {args : Array Value} {ds gs : List (DataW H)} {before : List MemPlace} {t : TypeId}
    (hl : laidOutB P = true) (hm : mapsRowed P = true) (hsl : slicesB P = true) (hps : ∀ t ∈ f.params.toList, t < P.types.size)
    (hW : DataW.Whole enc P f.params.toList s.vars false W args.toList ds gs before) (hv : s.vars = [])
    (hs : s.fn H ds = { results := [.lit (.bool true)], args := ds }) (hr : f.resultTypes = #[t]) (ht : P.underlying t = some .bool)
    (hos : W'.os = W.os) (hout : W'.output = W.output) (hold : ∀ g < W.heap.size, W'.heap[g]? = W.heap[g]?) :
    s.post enc P f false fresh handsOn again W args (.bool true) W' := by
  have hlt := hW.lt
  have hW0 := hW
  obtain ⟨p, q, h1, h2, rfl, hz, hn⟩ := hW
  rw [hv] at h2
  obtain ⟨rfl, rfl⟩ := trodVars_none h2
  simp only [List.append_nil] at hW0 hlt hz hn
  have same : ∀ x ∈ p, W.sameAt W' x := fun x hx => by
    have hb := hold _ (hlt x hx)
    cases x with
    | cell b o => simp only [World.sameAt, MemPlace.block] at hb ⊢; simp only [World.cell?]; rw [hb]
    | map b => exact hb
  have args' : ∀ sp : Nat → Bool, (∀ x ∈ p, sp x.block = true) → DataW.TrodAll enc P W' 0 sp true f.params.toList args.toList ds p := fun sp hsp =>
    trodAll_stays hl hm hsl _ _ _ _ hps h1 same hsp
  have res : ∀ (b : Nat) (sp : Nat → Bool) (hd : Bool), DataW.TrodAll enc P W' b sp hd f.resultTypes.toList ((Value.bool true).resultList f.resultTypes.size) [.lit (.bool true)] [] := fun b sp hd => by
    rw [hr]; exact trodAll_mk1 (shut_bool ht true)
  refine ⟨ds, [], p, [], p, [], hW0, ?_, ?_, ?_, ?_, fun _ => ⟨?_, .lit (.bool true) :: ds, [], p, ⟨p, [], ?_, ?_, by simp, fun b off hp => ?_, fun h => by cases h⟩, fun x hx _ => hx⟩⟩
  · rw [List.append_nil, hs]; exact res _ _ _
  · rw [List.append_nil, hs]; exact args' _ fun x hx => by simpa using hlt x hx
  · rw [List.append_nil, hs, hv]; rfl
  · refine ⟨hos, hout, fun i hi => ?_⟩
    rw [hold i hi]
    cases W.heap[i]? with
    | none => rfl
    | some o => cases o <;> simp
  · exact ok_one hr rfl (okWide_bool_mk ht true)
  · rw [hr]
    exact ⟨[], p, shut_bool ht true, args' (fun _ => true) fun _ _ => rfl, rfl⟩
  · rw [hv]; rfl
  · have := hz b off hp
    simp only [World.frozen?] at this ⊢
    rw [hold b (hlt _ hp)]; exact this
theorem law_lifted {K : Checked} {os : Os} (started : os.Started) {H : Type} {enc : TypeId × Value → H} {a : Assume} {fi : Nat} {fn : Func} {s : ChangeSpec} {fresh handsOn again : Bool} {laid : List (String × DataW Unit)} {gl : Nat → C} {t : TypeId}
    (own : ownKnob K.prog.godebug = none) (noInit : K.prog.inits.idxOf? fi = none) (hfn : K.prog.funcs[fi]? = some fn)
    (hl : laidOutB K.prog = true) (hm : mapsRowed K.prog = true) (hsl : slicesB K.prog = true) (hps : (fn.params.toList.all fun t => decide (t < K.prog.types.size)) = true)
    (hv : s.vars = []) (hs : ∀ ds : List (DataW H), ds.length = fn.params.size → s.fn H ds = { results := [.lit (.bool true)], args := ds }) (hr : fn.resultTypes = #[t]) (ht : K.prog.underlying t = some .bool)
    (witness : ∃ (w : World) (tape : Tape) (i : Input), w.os = os ∧ (w.forCall tape i).Shaped K.prog ∧ i.vars = [] ∧ Input.okWide K.prog (w.forCall tape i) .any w.heap.size fi i ∧
      ((s.pre enc K.prog fn [] false (w.forCall tape i).memory i.args ∧ laidMetH K.prog laid (w.forCall tape i).memory) ∧ sizedMet enc K.prog fn (OpenSpec.ofChange s) false (w.forCall tape i).memory i.args) ∧ a.holds K.prog (lone (Frame.enter K.prog fi i.args .normal) [] (w.forCall tape i)))
    (hgl : ∀ W, laidMetH K.prog laid W → ∀ g, Rep (GW W) (gl g) (.pointer (some ⟨g, 0, none⟩)))
    (hc : ∀ (W : World) (b0 : Nat) (args : Array Value) (ds : List (DataW H)) (p : List MemPlace), (∀ (j : Nat) t v, fn.params.toList[j]? = some t → args.toList[j]? = some v → Value.okWide K.prog W .any b0 t v) →
      DataW.TrodAll enc K.prog W 0 (fun _ => true) true fn.params.toList args.toList ds p → ∃ az, RepL (GW W) az args.toList ∧ FC K.prog gl fi az [] (.val (.bool true)) []) :
    ReturnsInHanded a K os fi .any (fun w args => (s.pre enc K.prog fn [] false w args ∧ laidMetH K.prog laid w) ∧ sizedMet enc K.prog fn (OpenSpec.ofChange s) false w args) (s.post enc K.prog fn false fresh handsOn again) := by
  refine returnsInHanded_of_change_and (C := K) (X := fun w _ => laidMetH K.prog laid w) (fun _ _ _ hh h => laidMetH.of_heap hh h) own started noInit hfn witness ?_
  intro W base args ds gs before hval hW _ _ hL _
  have hW' := hW
  obtain ⟨p, q, h1, h2, rfl, hz, hn⟩ := hW'
  rw [hv] at h2
  obtain ⟨rfl, rfl⟩ := trodVars_none h2
  obtain ⟨az, has, hfc⟩ := hc W base args ds p (fun j t v hj hv => hval j t v (by simpa using hj) (by simpa using hv)) h1
  refine (hfc.2 (GW W) W args (GW_ok W) (fun g p h => by cases h) (hgl W hL) has).mono ?_
  rintro e W' ⟨v, G', rfl, hrep, _, _, F⟩
  rw [rep_val] at hrep
  subst hrep
  have hlen : ∀ (ts : List TypeId) (vs : List Value) (ds : List (DataW H)) (ps : List MemPlace), DataW.TrodAll enc K.prog W 0 (fun _ => true) true ts vs ds ps → ds.length = ts.length := by
    intro ts
    induction ts with
    | nil => intro vs ds ps h; cases vs <;> cases ds <;> simp_all [DataW.TrodAll]
    | cons t ts ih =>
      intro vs ds ps h
      cases vs <;> cases ds <;> simp only [DataW.TrodAll] at h
      obtain ⟨p, q, _, h4, _⟩ := h
      simp [ih _ _ _ h4]
  have hold : ∀ g < W.heap.size, W'.heap[g]? = W.heap[g]? := fun g hg => (F.old g hg rfl (fun b h => by cases h)).1
  refine ⟨_, rfl, law_post hl hm hsl (fun t ht => ?_) hW hv (hs ds (by rw [hlen _ _ _ _ h1]; simp)) hr ht F.os F.output hold⟩
  have := List.all_eq_true.1 hps t ht
  simpa using this
end Go.Sx
namespace Go.Sx
open Go.RowKit
theorem int_cast (n : Nat) : Value.int .i64 (n : Int) = nI n := id rfl
theorem int_toNat (x : Int) (h : 0 ≤ x) : Value.int .i64 x = nI x.toNat := by
  unfold nI; congr 1; omega
section
variable (P : Program) (t : TypeId)
theorem i_add (x y : Int) (h : -9223372036854775808 ≤ x + y ∧ x + y < 9223372036854775808) : binPlan P .add t (.val (.int .i64 x)) (.val (.int .i64 y)) = some (vp (.val (.int .i64 (x + y)))) := by
  simp only [bin_int, sbin, ne_eq, not_true_eq_false, if_false, Option.map_some]
  rw [wrap_i64 _ (by omega) (by omega)]
theorem i_addn (x : Int) (y : Nat) (h : -9223372036854775808 ≤ x + y ∧ x + y < 9223372036854775808) : binPlan P .add t (.val (.int .i64 x)) (.val (nI y)) = some (vp (.val (.int .i64 (x + y)))) := i_add P t x y h
theorem i_sub (x y : Int) (h : -9223372036854775808 ≤ x - y ∧ x - y < 9223372036854775808) : binPlan P .sub t (.val (.int .i64 x)) (.val (.int .i64 y)) = some (vp (.val (.int .i64 (x - y)))) := by
  simp only [bin_int, sbin, ne_eq, not_true_eq_false, if_false, Option.map_some]
  rw [wrap_i64 _ (by omega) (by omega)]
theorem i_subn (x : Int) (y : Nat) (h : -9223372036854775808 ≤ x - y ∧ x - y < 9223372036854775808) : binPlan P .sub t (.val (.int .i64 x)) (.val (nI y)) = some (vp (.val (.int .i64 (x - y)))) := i_sub P t x y h
theorem i_mul (x y : Int) (h : -9223372036854775808 ≤ x * y ∧ x * y < 9223372036854775808) : binPlan P .mul t (.val (.int .i64 x)) (.val (.int .i64 y)) = some (vp (.val (.int .i64 (x * y)))) := by
  simp only [bin_int, sbin, ne_eq, not_true_eq_false, if_false, Option.map_some]
  rw [wrap_i64 _ (by omega) (by omega)]
theorem i_nmul (x : Nat) (y : Int) (h : -9223372036854775808 ≤ x * y ∧ x * y < 9223372036854775808) : binPlan P .mul t (.val (nI x)) (.val (.int .i64 y)) = some (vp (.val (.int .i64 (x * y)))) := i_mul P t x y h
theorem i_quo (x y : Int) (h : y ≠ 0 ∧ -9223372036854775808 ≤ x.tdiv y ∧ x.tdiv y < 9223372036854775808) : binPlan P .quo t (.val (.int .i64 x)) (.val (.int .i64 y)) = some (vp (.val (.int .i64 (x.tdiv y)))) := by
  simp only [bin_int, sbin, ne_eq, not_true_eq_false, if_false, Option.map_some, h.1]
  rw [wrap_i64 _ (by omega) (by omega)]
theorem i_quon (x : Int) (y : Nat) (h : 0 < y) (hx : -9223372036854775808 ≤ x ∧ x < 9223372036854775808) : binPlan P .quo t (.val (.int .i64 x)) (.val (nI y)) = some (vp (.val (.int .i64 (x.tdiv y)))) := by
  refine i_quo P t x y ⟨by omega, ?_⟩
  have key : ∀ n : Nat, (n : Int).tdiv (y : Int) = ((n / y : Nat) : Int) := fun _ => rfl
  rcases Int.le_total 0 x with h0 | h0
  · obtain ⟨n, rfl⟩ := Int.eq_ofNat_of_zero_le h0
    rw [key]
    have := Nat.div_le_self n y
    generalize n / y = q at this ⊢
    omega
  · obtain ⟨n, hn⟩ := Int.eq_ofNat_of_zero_le (a := -x) (by omega)
    have e : x = -(n : Int) := by omega
    rw [e, Int.neg_tdiv, key]
    have := Nat.div_le_self n y
    generalize n / y = q at this ⊢
    omega
theorem i_rem (x y : Int) (h : y ≠ 0) : binPlan P .rem t (.val (.int .i64 x)) (.val (.int .i64 y)) = some (vp (.val (.int .i64 (x.tmod y)))) := by
  simp only [bin_int, sbin, ne_eq, not_true_eq_false, if_false, Option.map_some, h]
theorem i_remn (x : Int) (y : Nat) (h : 0 < y) : binPlan P .rem t (.val (.int .i64 x)) (.val (nI y)) = some (vp (.val (.int .i64 (x.tmod y)))) := i_rem P t x y (by omega)
theorem i_eql (x y : Int) : binPlan P .eql t (.val (.int .i64 x)) (.val (.int .i64 y)) = some (vp (.val (.bool (decide (x = y))))) := by
  simp only [bin_int, sbin, ne_eq, not_true_eq_false, if_false, Option.map_some]
  congr 4
theorem i_lss (x y : Int) : binPlan P .lss t (.val (.int .i64 x)) (.val (.int .i64 y)) = some (vp (.val (.bool (decide (x < y))))) := by
  simp only [bin_int, sbin, ne_eq, not_true_eq_false, if_false, Option.map_some]
theorem i_leq (x y : Int) : binPlan P .leq t (.val (.int .i64 x)) (.val (.int .i64 y)) = some (vp (.val (.bool (decide (x ≤ y))))) := by
  simp only [bin_int, sbin, ne_eq, not_true_eq_false, if_false, Option.map_some]
theorem i_gtr (x y : Int) : binPlan P .gtr t (.val (.int .i64 x)) (.val (.int .i64 y)) = some (vp (.val (.bool (decide (y < x))))) := by
  simp only [bin_int, sbin, ne_eq, not_true_eq_false, if_false, Option.map_some]
theorem i_geq (x y : Int) : binPlan P .geq t (.val (.int .i64 x)) (.val (.int .i64 y)) = some (vp (.val (.bool (decide (y ≤ x))))) := by
  simp only [bin_int, sbin, ne_eq, not_true_eq_false, if_false, Option.map_some]
theorem i_eqln (x : Int) (y : Nat) : binPlan P .eql t (.val (.int .i64 x)) (.val (nI y)) = some (vp (.val (.bool (decide (x = y))))) := i_eql P t x y
theorem i_lssn (x : Int) (y : Nat) : binPlan P .lss t (.val (.int .i64 x)) (.val (nI y)) = some (vp (.val (.bool (decide (x < y))))) := i_lss P t x y
theorem i_leqn (x : Int) (y : Nat) : binPlan P .leq t (.val (.int .i64 x)) (.val (nI y)) = some (vp (.val (.bool (decide (x ≤ y))))) := i_leq P t x y
theorem i_gtrn (x : Int) (y : Nat) : binPlan P .gtr t (.val (.int .i64 x)) (.val (nI y)) = some (vp (.val (.bool (decide ((y : Int) < x))))) := i_gtr P t x y
theorem i_geqn (x : Int) (y : Nat) : binPlan P .geq t (.val (.int .i64 x)) (.val (nI y)) = some (vp (.val (.bool (decide ((y : Int) ≤ x))))) := i_geq P t x y
theorem i_nleq (x : Nat) (y : Int) : binPlan P .leq t (.val (nI x)) (.val (.int .i64 y)) = some (vp (.val (.bool (decide ((x : Int) ≤ y))))) := i_leq P t x y
theorem u_gtr (x y : Nat) : binPlan P .gtr t (.val (nU x)) (.val (nU y)) = some (vp (.val (.bool (decide (y < x))))) := by
  simp only [nU, bin_int, sbin, ne_eq, not_true_eq_false, if_false, Option.map_some]
  congr 4; rw [Bool.eq_iff_iff]; simp
theorem u_shri (x : Nat) (s : Int) (h : x < 18446744073709551616) (h2 : 0 ≤ s) : binPlan P .shr t (.val (nU x)) (.val (.int .i64 s)) = some (vp (.val (nU (x >>> s.toNat)))) := by
  rw [int_toNat s h2]; exact u_shrn P t x s.toNat h
theorem un_xoru (x : Nat) (h : x < 18446744073709551616) : unPlan .xor (.val (nU x)) = some (vp (.val (nU (18446744073709551615 - x)))) := by
  show some (vp (.val (.int .u64 (IntKind.wrap .u64 ((BitVec.ofInt 64 18446744073709551615 ^^^ BitVec.ofInt 64 (x : Int)).toNat : Int))))) = _
  have e : BitVec.ofInt 64 18446744073709551615 = BitVec.allOnes 64 := by decide
  rw [e, BitVec.ofInt_natCast, BitVec.allOnes_xor, BitVec.toNat_not, BitVec.toNat_ofNat, Nat.mod_eq_of_lt h, wrap_u64, nU]
  simp only [Option.some.injEq, vp, Plan.val.injEq, C.val.injEq, Value.int.injEq, true_and, and_true]
  have e2 : 2 ^ 64 - 1 - x = 18446744073709551615 - x := by simp
  rw [e2]; omega
theorem un_negi (x : Int) (h : -9223372036854775808 < x ∧ x ≤ 9223372036854775808) : unPlan .neg (.val (.int .i64 x)) = some (vp (.val (.int .i64 (-x)))) := by
  show some (vp (.val (.int .i64 (IntKind.wrap .i64 (0 - x))))) = _
  rw [wrap_i64 _ (by omega) (by omega), Int.zero_sub]
end
theorem idx_int (n : Nat) (x : Int) (h : 0 ≤ x ∧ x < n) : idx? (.val (.int .i64 x)) n = some x.toNat := by
  simp only [idx?, C.int?]; rw [if_pos h]
theorem mm_min (x y : Nat) : minMax false (.val (nI x)) (.val (nI y)) = some (vp (.val (nI (min x y)))) := by
  simp only [minMax, nI, if_true, Bool.false_eq_true, if_false]
  by_cases h : y < x
  · rw [if_pos (by omega), Nat.min_eq_right (by omega)]; rfl
  · rw [if_neg (by omega), Nat.min_eq_left (by omega)]; rfl
theorem mm_max (x y : Nat) : minMax true (.val (nI x)) (.val (nI y)) = some (vp (.val (nI (max x y)))) := by
  simp only [minMax, nI, if_true]
  by_cases h : x < y
  · rw [if_pos (by omega), Nat.max_eq_right (by omega)]; rfl
  · rw [if_neg (by omega), Nat.max_eq_left (by omega)]; rfl
theorem mm_maxi (x y : Int) : minMax true (.val (.int .i64 x)) (.val (.int .i64 y)) = some (vp (.val (.int .i64 (max x y)))) := by
  simp only [minMax, if_true]
  by_cases h : x < y
  · rw [if_pos h, Int.max_eq_right (by omega)]; rfl
  · rw [if_neg h, Int.max_eq_left (by omega)]; rfl
theorem mm_maxin (x : Int) (y : Nat) : minMax true (.val (.int .i64 x)) (.val (nI y)) = some (vp (.val (.int .i64 (max x y)))) := mm_maxi x y
theorem n_subG (P : Program) (t : TypeId) (x y : Nat) (h : x < 9223372036854775808 ∧ y ≤ 9223372036854775808) : binPlan P .sub t (.val (nI x)) (.val (nI y)) = some (vp (.val (.int .i64 ((x : Int) - y)))) := i_sub P t x y (by omega)
theorem CLe_int {x y : Int} (h : x = y) : CLe (.val (.int .i64 x)) (.val (.int .i64 y)) := h ▸ CLe.refl _
theorem CLe_inI {x : Int} {y : Nat} (h : x = y) : CLe (.val (.int .i64 x)) (.val (nI y)) := h ▸ CLe.refl _
theorem CLe_nIi {x : Nat} {y : Int} (h : (x : Int) = y) : CLe (.val (nI x)) (.val (.int .i64 y)) := h ▸ CLe.refl _
theorem CLe_nI {x y : Nat} (h : x = y) : CLe (.val (nI x)) (.val (nI y)) := h ▸ CLe.refl _
theorem CLe_sl {α : Type} {f : α → List C} {r : Rt} {l l' : List α} (h : l = l') : CLe (sl f r l) (sl f r l') := h ▸ CLe.refl _
theorem CLe_slf {α : Type} {f : α → List C} {r : Rt} {l l' : List α} (h : l = l') : CLe (sl f .full l) (sl f r l') := h ▸ CLe.full _ _ _
theorem CLe_sln {α : Type} {f : α → List C} {r : Rt} {l : List α} (h : l = []) : CLe (.val (.slice none 0 0)) (sl f r l) := by subst h; exact CLe.nil _
end Go.Sx
namespace Go.Sx
open Go.RowKit
mutual
theorem noRef_zero (k : Nat) : ∀ c : C, noRef 0 c = true → noRef k c = true
  | .top, _ => rfl
  | .val _, _ => rfl
  | .sl _ _ xs, h => by simp only [noRef] at h ⊢; exact noRefs_zero k xs h
  | .sv b _ _, h => by simp [noRef] at h
  | .bp b _, h => by simp [noRef] at h
  | .kp xs, h => by simp only [noRef] at h ⊢; exact noRefs_zero k xs h
  | .agg xs, h => by simp only [noRef] at h ⊢; exact noRefs_zero k xs h
  | .tup xs, h => by simp only [noRef] at h ⊢; exact noRefs_zero k xs h
  | .fn _ xs, h => by simp only [noRef] at h ⊢; exact noRefs_zero k xs h
theorem noRefs_zero (k : Nat) : ∀ l : List C, noRefs 0 l = true → noRefs k l = true
  | [], _ => rfl
  | c :: l, h => by
    simp only [noRefs, Bool.and_eq_true] at h ⊢
    exact ⟨noRef_zero k c h.1, noRefs_zero k l h.2⟩
end
def noRefE (k : Nat) : List (Nat × C) → Bool
  | [] => true
  | x :: e => noRef k x.2 && noRefE k e
theorem noRefE_nil (k : Nat) : noRefE k [] = true := rfl
theorem noRefE_cons (k t : Nat) (c : C) (e : List (Nat × C)) : noRefE k ((t, c) :: e) = (noRef k c && noRefE k e) := rfl
theorem noRefE_at (k : Nat) : ∀ e : List (Nat × C), noRefE k e = true → ∀ t, noRef k (A e t) = true
  | [], _, t => rfl
  | (u, c) :: e, h, t => by
    rw [noRefE_cons, Bool.and_eq_true] at h
    rw [A_cons]
    split
    · exact h.1
    · exact noRefE_at k e h.2 t
def noRefH (k : Nat) : Hp → Bool
  | [] => true
  | none :: h => noRefH k h
  | some cs :: h => noRefs k cs && noRefH k h
theorem noRefH_nil (k : Nat) : noRefH k [] = true := rfl
theorem noRefH_none (k : Nat) (h : Hp) : noRefH k (none :: h) = noRefH k h := rfl
theorem noRefH_some (k : Nat) (cs : List C) (h : Hp) : noRefH k (some cs :: h) = (noRefs k cs && noRefH k h) := rfl
theorem noRefH_at (k : Nat) : ∀ (h : Hp) (b : Nat) (cells : List C), noRefH k h = true → h[b]? = some (some cells) → noRefs k cells = true
  | [], b, cells, _, hb => by simp at hb
  | none :: h, 0, cells, _, hb => by simp at hb
  | some cs :: h, 0, cells, hk, hb => by
    rw [noRefH_some, Bool.and_eq_true] at hk
    simp only [List.getElem?_cons_zero, Option.some.injEq] at hb
    subst hb; exact hk.1
  | x :: h, b + 1, cells, hk, hb => by
    rw [List.getElem?_cons_succ] at hb
    refine noRefH_at k h b cells ?_ hb
    cases x with
    | none => exact hk
    | some cs => rw [noRefH_some, Bool.and_eq_true] at hk; exact hk.2
theorem Tr.cutA {cx : Cx} {n : Nat} {Q : Ex → St → Prop} {e : List (Nat × C)} {h : Hp} {c : Code} (hcx : CxOK cx) (k : Nat) (hk : n ≤ k) (he : noRefE k e = true) (hb : noRefH k (h.take k) = true)
    (H : Tr cx n c ⟨A e, h.take k⟩ Q) : Tr cx n c ⟨A e, h⟩ Q :=
  Tr.cut k hk (noRefE_at k e he) (fun g => noRef_zero k _ (hcx.glo g)) (fun b cells hbk hc => noRefH_at k _ b cells hb (by rw [List.getElem?_take, if_pos hbk]; exact hc)) H
theorem noRef_fn (k f : Nat) (xs : List C) : noRef k (.fn f xs) = noRefs k xs := rfl
end Go.Sx
namespace Go.Sx
open Go.RowKit
theorem rdc_getAt (d : TD) (h : d.isAgg = false) (cells : List C) (o : Nat) : getAt d cells o = rdc cells o := by
  unfold getAt rdc; rw [h]; rfl
section
variable (P : Program)
theorem eqEs_g {α : Type} [Inhabited α] [DecidableEq α] {f : α → List C} {g : α → C} [hf : Sca f g] (F : C → C → Option Bool) (de : TD) (hd : de.isAgg = false) (hs : de.size = 1) (hF : ∀ a b, F (g a) (g b) = some (decide (a = b)))
    (x y : List α) (n : Nat) (hx : x.length = n) (hy : y.length = n) : ∀ m i, i + m = n → eqEs F de (cl f x) (cl f y) (List.range' i m) = some (decide (x.drop i = y.drop i))
  | 0, i, h => by
    rw [List.drop_of_length_le (by omega), List.drop_of_length_le (by omega)]; simp [eqEs]
  | m + 1, i, h => by
    have hxi : i < x.length := by omega
    have hyi : i < y.length := by omega
    rw [List.range'_succ]
    unfold eqEs
    rw [rdc_getAt _ hd, rdc_getAt _ hd, hs, Nat.mul_one, rdc_cl (f := f) x i hxi, rdc_cl (f := f) y i hyi]
    simp only []
    rw [hF]
    have e1 : x.drop i = x.getD i default :: x.drop (i + 1) := by rw [List.drop_eq_getElem_cons hxi]; simp [List.getD, List.getElem?_eq_getElem hxi]
    have e2 : y.drop i = y.getD i default :: y.drop (i + 1) := by rw [List.drop_eq_getElem_cons hyi]; simp [List.getD, List.getElem?_eq_getElem hyi]
    rw [e1, e2]
    by_cases hab : x.getD i default = y.getD i default
    · rw [decide_eq_true hab]
      simp only []
      rw [eqEs_g F de hd hs hF x y n hx hy m (i + 1) (by omega), hab]
      simp
    · rw [decide_eq_false hab]
      simp only []
      rw [decide_eq_false]
      intro hc
      exact hab (List.cons.inj hc).1
def eqR (op : BinOp) (b : Bool) : Option Plan := match op with
  | .eql => some (vp (.val (.bool b)))
  | .neq => some (vp (.val (.bool (!b))))
  | _ => none
theorem eqR_eql (b : Bool) : eqR .eql b = some (vp (.val (.bool b))) := rfl
theorem eqPlan_some {t : TypeId} {x y : List C} {b : Bool} (op : BinOp) (hg : P.eqGuardType P.depth t = false) (h : eqC P 9 t (.agg x) (.agg y) = some b) : binPlan P op t (.agg x) (.agg y) = eqR op b := by
  show eqPlan P op t (.agg x) (.agg y) = _
  unfold eqPlan
  rw [if_pos ⟨.inl ⟨rfl, rfl⟩, hg⟩]
  unfold eqR
  cases op <;> simp [h, vp, Plan.pure]
theorem eqC_int {t : TypeId} {k : IntKind} {s y : Nat} {z : List Value} (d : Nat) (h : td P t = some ⟨.int k, s, y, z⟩) (a b : Int) : eqC P (d + 1) t (.val (.int k a)) (.val (.int k b)) = some (decide (a = b)) := by
  unfold eqC; rw [h]; simp only [if_true]; congr 1
theorem eqC_w8 {t : TypeId} {s y : Nat} {z : List Value} (d : Nat) (h : td P t = some ⟨.int .u8, s, y, z⟩) (a b : UInt8) : eqC P (d + 1) t (.val (w8 a)) (.val (w8 b)) = some (decide (a = b)) := by
  have := eqC_int P d h a.toNat b.toNat
  rw [w8, w8, this]; congr 1; rw [decide_eq_decide]
  exact ⟨fun h => UInt8.toNat_inj.1 (by omega), fun h => by rw [h]⟩
theorem eqC_arr8 {t e : TypeId} {n s y y2 : Nat} {z z2 : List Value} (d : Nat) (h : td P t = some ⟨.array n e, s, y, z⟩) (he : td P e = some ⟨.int .u8, 1, y2, z2⟩) (a b : List UInt8) (ha : a.length = n) (hb : b.length = n) :
    eqC P (d + 2) t (.agg (cl bC a)) (.agg (cl bC b)) = some (decide (a = b)) := by
  unfold eqC; rw [h]; simp only []; rw [he]
  simp only [C.agg?]
  have := eqEs_g (f := bC) (eqC P (d + 1) e) ⟨.int .u8, 1, y2, z2⟩ rfl rfl (fun a b => eqC_w8 P d he a b) a b n ha hb n 0 (by omega)
  simpa using this
theorem eq_arr8 {t e : TypeId} {n s y y2 : Nat} {z z2 : List Value} (h : td P t = some ⟨.array n e, s, y, z⟩) (he : td P e = some ⟨.int .u8, 1, y2, z2⟩) (hg : P.eqGuardType P.depth t = false) (op : BinOp) (a b : List UInt8) (ha : a.length = n) (hb : b.length = n) :
    binPlan P op t (.agg (cl bC a)) (.agg (cl bC b)) = eqR op (decide (a = b)) := eqPlan_some P op hg (eqC_arr8 P 7 h he a b ha hb)
end
@[congr] theorem stG_congr {cx : Cx} {apps : List Nat} {dsts : List (Option Nat)} {l : List Oper} {id : Nat} {d : Option Nat} {e : List (Nat × C)} {h : Hp} {fs : List FP} {K : List FP → St → Prop} {ty : TypeId} {pos : String} {aft : Array Edge} {op : Op} {p p' : Option Bool} (hp : p = p') :
    stG cx apps dsts l id d e h fs K ty pos aft op p = stG cx apps dsts l id d e h fs K ty pos aft op p' := by rw [hp]
def wanV (c : C) (w : Bool) : Option Bool := match c with
  | .val (.bool b) => some (b == w)
  | .val (.tuple _) => some false
  | _ => none
def wanQ (d : Option (Option Nat)) (w : Bool) (e : List (Nat × C)) : Option Bool := match d.bind id with
  | none => some false
  | some t => wanV (A e t).noR w
theorem wanted_q (dsts : List (Option Nat)) (j : Nat) (w : Bool) (e : List (Nat × C)) : wantedA dsts (some (j, w)) (A e) = wanQ (dsts[j]?) w e := rfl
theorem wanQ_some (t : Nat) (w : Bool) (e : List (Nat × C)) : wanQ (some (some t)) w e = wanV (A e t).noR w := rfl
theorem wanV_T (b : Bool) : wanV (.val (.bool b)) true = some b := by cases b <;> rfl
theorem wanV_F (b : Bool) : wanV (.val (.bool b)) false = some (!b) := by cases b <;> rfl
theorem wanV_u (w : Bool) : wanV (.val undef) w = some false := rfl
end Go.Sx
namespace Go.Sx
open Go.RowKit
section
variable {cx : Cx} {G : Gh} {w : World} {st : St} {a : Act}
structure Lit (cx : Cx) (ops ops' : Array Oper) (k : Nat) : Prop where
  dst : ops'.toList.map (·.dst) = ops.toList.map (·.dst)
  app : ops'.toList.filterMap appOf = ops.toList.filterMap appOf
  cnt : ∀ i, cnt ops' i = cnt ops i
  same : ∀ i, i ≠ k + 1 → ops'[i]? = ops[i]?
  two : ∃ p q t n ps ty1 pos1 aft1 ty2 pos2 aft2 e s y z y2 z2, ops[k]? = some ⟨some p, .buildSlice t n ps, ty1, pos1, aft1, none⟩ ∧ ops[k + 1]? = some ⟨some q, .convert t t (.tmp p), ty2, pos2, aft2, none⟩ ∧
    ops'[k + 1]? = some ⟨some q, .move (.tmp p), ty2, pos2, aft2, none⟩ ∧ td cx.P t = some ⟨.slice e, s, y, z⟩ ∧ td cx.P e = some ⟨.int .u8, 1, y2, z2⟩ ∧ cx.gr p = false
end
end Go.Sx
namespace Go.Sx
open Go.RowKit
class Inj {α : Type} (f : α → List C) : Prop where
  inj : ∀ a b, f a = f b → a = b
instance : Inj bC := ⟨fun a b h => by simpa [bC, w8_inj] using h⟩
instance : Inj wC := ⟨fun a b h => by simpa [wC, w32_inj] using h⟩
instance : Inj sC := ⟨fun a b h => by simpa [sC, str_inj] using h⟩
instance : Inj nC := ⟨fun a b h => by simpa [nC, nI_inj] using h⟩
instance : Inj iC := ⟨fun a b h => by simpa [iC] using h⟩
instance : Inj oC := ⟨fun a b h => by simpa [oC] using h⟩
theorem cl_inj {α : Type} {f : α → List C} {s : Nat} [hf : Cel f s] [hi : Inj f] : ∀ {l l' : List α}, cl f l = cl f l' ↔ l = l' := by
  intro l l'
  constructor
  · induction l generalizing l' with
    | nil =>
      intro h
      cases l' with
      | nil => rfl
      | cons a l' =>
        have := congrArg List.length h
        rw [cl_nil, cl_cons, List.length_append, hf.len] at this
        have := hf.pos
        simp at *
        omega
    | cons a l ih =>
      intro h
      cases l' with
      | nil =>
        have := congrArg List.length h
        rw [cl_nil, cl_cons, List.length_append, hf.len] at this
        have := hf.pos
        simp at *
        omega
      | cons b l' =>
        rw [cl_cons, cl_cons] at h
        obtain ⟨h1, h2⟩ := List.append_inj h (by rw [hf.len, hf.len])
        rw [hi.inj _ _ h1, ih h2]
  · rintro rfl; rfl
theorem sl_inj {α : Type} {f : α → List C} {s : Nat} [hf : Cel f s] [hi : Inj f] {r : Rt} {l l' : List α} : sl f r l = sl f r l' ↔ l = l' := by
  constructor
  · intro h
    simp only [sl, C.sl.injEq, true_and] at h
    exact cl_inj.1 h.2
  · rintro rfl; rfl
theorem app_inj {α : Type} {f : α → List C} {s : Nat} [hf : Cel f s] [hi : Inj f] {l l' : List α} {r r' : List C} (hl : l.length = l'.length) : cl f l ++ r = cl f l' ++ r' ↔ l = l' ∧ r = r' := by
  constructor
  · intro h
    obtain ⟨h1, h2⟩ := List.append_inj h (by rw [cl_len (f := f), cl_len (f := f), hl])
    exact ⟨cl_inj.1 h1, h2⟩
  · rintro ⟨rfl, rfl⟩; rfl
end Go.Sx
namespace Go.Sx
open Go.RowKit
attribute [go_sem ↓] A_cons GB_true GB_false
attribute [go_sem] allocG_F callQ_some callQ_none callR_rd refBox_sv refBox_bp refBox_agg refBox_val refBox_kp oneB_nil oneB_val oneB_kp oneB_tsl oneB_bpn rdPu_eq rdQ_some rdR_true frzs_nil frzs_cons frz_agg frz_sv frzS_allL frzS_RL noRef_val noRef_agg noRef_tup noRef_kp noRef_sl noRefs_cl noRefs_cons noRefs_nil noRefs_app flat_agg flats_cl flats_app Bool.and_self Bool.and_true on_tmp on_const on_global on_func orw_tmp orw_const tmpq_tmp tmpq_const not_true_eq_false not_false_eq_true noR_val noR_sv noR_bp noR_kp noR_agg noR_tup noR_fn noR_slno noR_slfull noR_slown run_nil run_mvt run_mvc run_asg run_pick run_alloc run_box run_build run_buildS run_load run_store run_nilc run_bin run_un run_conv run_sta run_mkf run_slice run_fa run_ixa run_ix run_extr run_len run_app run_copy run_min run_max run_call run_mkS run_mkN run_guard bump_move bump_pick bump_build bump_load bump_binOp bump_unOp bump_fieldAddr bump_indexAddr bump_call stV_vp stV_val0 stV_valk stV_rd stV_wr stV_xr stV_new stV_call stR_some stW_some0 stW_somek stC_some stN_some stG_some AN_true dOK_some dOK_none lit_w32o lit_w8o lit_nIo lit_nUo str_mk mvP isA_nil isA_cons Bool.or_false Bool.false_or Bool.true_or Bool.or_true beq_self_eq_true onM onP List.map_nil List.map_cons Option.map_none Option.map_some Option.bind_some Option.bind_none thenQ_n bin_bool binB_neq w_add w_xor w_and w_or w_not w_shln w_shlu w_shrn w_shru b_xor b_sub n_add n_sub n_mul n_quo n_rem n_eql n_neq n_lss n_leq n_gtr n_geq u_add u_sub u_mul u_rem u_and31 u_shrn un_negn un_not u_shru s_eql s_neq s_add s_lss int_cast ne_eq wanted_q wanQ_some wanV_T wanV_F wanV_u eqR_eql eq_self decide_true decide_false Bool.not_true Bool.not_false i_add i_addn i_sub i_subn i_mul i_nmul i_quo i_quon i_rem i_remn i_eql i_lss i_leq i_gtr i_geq i_eqln i_lssn i_leqn i_gtrn i_geqn i_nleq u_gtr u_shri un_xoru un_negi idx_int mm_min mm_max mm_maxi mm_maxin conv_td cv_u8u32 cv_nu64 cv_u64n cv_u32u8 cv_u64u8 cv_nu8 cv_iu8 cv_iu64 cv_sb cvB_u8 cv_bs cvS_u8 cv_vs cvV_u8 load_bp ldB_int ldB_bool ldB_str ldB_sl ldB_slo ldB_arr ldB_struct load_kp ldK_int ldK_str ldK_sl ldK_arr ldK_struct store_val store_agg store_fn store_sl stS_one stB_many cells_w32 cells_w8 cells_nI cells_nU cells_int cells_str cells_bool cells_agg cl_noR box_cs boxQ_some alloc_z alQ_true allOne_nil allOne_cons allOne_app allOne_rep zc_nil zc_cons zc_app zc_rep one_w32 one_w8 one_nI one_nU one_str one_bool one_slice build_struct bldS_true plc_nil plc_cons plQ_some layS_nil layS_cons layQ_some layW_some rep_1 rep_w32 rep_w8 rep_nI idx_nI bound_nI bound_none ixa_td ixS_some ixa_ab ixa_akT ixK_some ixa_sv ixa_slT ixL_some inx_td inx_arr getP_int len_td len_str len_sv len_sl Nat.mul_one Nat.zero_add Nat.add_zero slice_td sl2_none sl2_nI slS_some slP_str slQ_some slP_sv slP_ab slP_slT slH_some sta_T cp_strT app_td app_ss app_st apQ_own apQ_full apQ_nil apQ_strs copy_td pick_tf pick_ff nilP extractP callP shares List.append_nil share_w32 share_nI share_strs share_val share_nil share_sv share_bp share_agg share_fn share_slno share_slfull rds_cl wrc_full rda_full cpc_clRR cpc_clL List.map_append gt_cons0 gt_consS rda_clM build_arr buildA_w buildA_b lay1_nil lay1_w lay1_b bs_slice bsA_b bsA_n bsA_s lay1s_b lay1s_s lay1s_nil rep_str Nat.sub_zero Nat.zero_mul List.drop_zero List.drop_succ_cons List.take_succ_cons List.take_zero at_cons0 at_consS rdc_cons0 rdc_consS rdc_drop rdc_cl rdc_clL rdc_clE rdc_clRR rda_clL wrc_w wrc_b wrc_clE wrc_clRR wrc_clA wrc_clAL wrs_one List.set_cons_zero List.set_cons_succ List.getElem?_cons_zero List.getElem?_cons_succ List.length_nil List.length_cons List.nil_append List.cons_append Nat.add_sub_cancel_left List.length_set List.length_replicate gt_def
end Go.Sx
namespace Go.Sx
open Go.RowKit Go.ChangeShapes
theorem laid_ints {H : Type} {enc : TypeId × Value → H} {P : Program} {W : World} {base : Nat} {sp : Nat → Bool} {held : Bool} {fuel : Nat} {t e : TypeId} {n : Nat} {k : IntKind} {cs : List Value} {p : List MemPlace} {ns : List Int}
    (ht : P.underlying t = some (.array n e)) (he : P.underlying e = some (.int k)) (hc : P.cellsOf e = 1) (hn : P.cellsOf t = n)
    (h : DataW.trod enc P W base sp held fuel t cs = some (.agg (ns.map fun m => .lit (.int k m)), p)) : cs = ns.map (.int k ·) := by
  obtain ⟨xs, m, _, hx, hlen, hxl, hel⟩ := DataW.trod_array ht h
  simp only [Prod.mk.injEq, DataW.agg.injEq] at hx
  have hnl : ns.length = n := by
    have := congrArg List.length hx.1
    simp only [List.length_map] at this; omega
  have each : ∀ i < n, ∃ z, cs[i]? = some (.int k z) ∧ ns[i]? = some z := fun i hi => by
    have h1 := hel i hi
    rw [List.getElem?_eq_getElem (by omega), hc, Nat.mul_one] at h1
    obtain ⟨z, h2, h3, _⟩ := DataW.trod_int he h1
    refine ⟨z, ?_, ?_⟩
    · have h4 := congrArg (fun l => l[0]?) h2
      simpa [List.getElem?_take, List.getElem?_drop] using h4
    · have h5 := congrArg (fun l => l[i]?) hx.1
      simp only [List.getElem?_map] at h5
      rw [List.getElem?_eq_getElem (l := xs) (by omega), h3] at h5
      simp only [Option.map_some] at h5
      cases hq : ns[i]? with
      | none => rw [hq] at h5; cases h5
      | some z' => rw [hq] at h5; simp only [Option.map_some, Option.some.injEq, DataW.lit.injEq, Lit.int.injEq, true_and] at h5; rw [h5]
  apply List.ext_getElem?
  intro i
  by_cases hi : i < n
  · obtain ⟨z, h1, h2⟩ := each i hi
    rw [h1, List.getElem?_map, h2]; rfl
  · rw [List.getElem?_eq_none (by omega), List.getElem?_eq_none (by simp; omega)]
theorem glob_words {P : Program} {W : World} {n : String} {g t e m fuel : Nat} {enc : TypeId × Value → Unit} {sp : Nat → Bool} {held : Bool} {cs : Array Value} {p : List MemPlace} {ws : List (BitVec 32)}
    (hg : P.globalNamed n = some g) (hv : W.var? P n = some cs) (ht : P.underlying t = some (.array m e)) (he : P.underlying e = some (.int .u32)) (hc : P.cellsOf e = 1) (hn : P.cellsOf t = m)
    (h : DataW.trod enc P W 0 sp held fuel t cs.toList = some (.agg ((ws.map fun w => (w.toNat : Int)).map fun m => .lit (.int .u32 m)), p)) : Rep (GW W) (.kp (cl wC ws)) (.pointer (some ⟨g, 0, none⟩)) := by
  have hcs := laid_ints ht he hc hn h
  simp only [Rep]
  refine ⟨g, 0, rfl, RepK.of_get fun i x hx => ?_⟩
  have hi : i < ws.length := by
    have := (List.getElem?_eq_some_iff.1 hx).1
    rw [cl_len (f := wC)] at this; omega
  rw [cl_get (f := wC) ws i hi] at hx
  simp only [Option.some.injEq] at hx
  subst hx
  refine ⟨w32 (ws.getD i default), ?_, rfl, rep_val.2 rfl⟩
  show W.cell? ⟨g, 0 + i, none⟩ = _
  rw [World.var?_cell hg hv, Nat.zero_add, ← Array.getElem?_toList, hcs]
  simp [List.getElem?_map, List.getD, List.getElem?_eq_getElem hi, w32]
theorem trods_cons {H : Type} {enc : TypeId × Value → H} {P : Program} {W : World} {b : Nat} {sp : Nat → Bool} {hd : Bool} {t : TypeId} {ts : List TypeId} {vs : List Value} {ds : List (DataW H)} {ps : List MemPlace}
    (h : DataW.TrodAll enc P W b sp hd (t :: ts) vs ds ps) : ∃ v vs' d ds' p q, vs = v :: vs' ∧ ds = d :: ds' ∧ DataW.Trod enc P W b sp hd t v d p ∧ DataW.TrodAll enc P W b sp hd ts vs' ds' q := by
  cases vs <;> cases ds <;> simp only [DataW.TrodAll] at h
  obtain ⟨p, q, h1, h2, _⟩ := h
  exact ⟨_, _, _, _, p, q, rfl, rfl, h1, h2⟩
theorem trods_nil {H : Type} {enc : TypeId × Value → H} {P : Program} {W : World} {b : Nat} {sp : Nat → Bool} {hd : Bool} {vs : List Value} {ds : List (DataW H)} {ps : List MemPlace}
    (h : DataW.TrodAll enc P W b sp hd [] vs ds ps) : vs = [] := by
  cases vs <;> cases ds <;> simp only [DataW.TrodAll] at h <;> rfl
def AR (P : Program) (t : TypeId) {α : Type} (g : α → C) (ok : α → Prop) : Prop :=
  ∀ {H : Type} {enc : TypeId × Value → H} {W : World} {base b0 : Nat} {sp : Nat → Bool} {held : Bool} {v : Value} {d : DataW H} {ps : List MemPlace},
    Value.okWide P W .any b0 t v → DataW.Trod enc P W base sp held t v d ps → ∃ a, ok a ∧ Rep (GW W) (g a) v
section
variable {P : Program} {t e : TypeId}
theorem ar_int {s y : Nat} {z : List Value} (h : td P t = some ⟨.int .i64, s, y, z⟩) : AR P t (fun n : Int => .val (.int .i64 n)) fun n => -9223372036854775808 ≤ n ∧ n ≤ 9223372036854775807 :=
  fun h1 h2 => arg_one (f := iC) (fun _ => rfl) (rds_int (td_spec h).1) (fun u hu => by rw [(td_spec h).1] at hu; cases hu; trivial) h1 h2
theorem ar_slice {α : Type} {f : α → List C} {ok : α → Prop} {s0 s y : Nat} [hf : Cel f s0] {z : List Value} (h : td P t = some ⟨.slice e, s, y, z⟩) (hc : P.cellsOf e = s0) (he : Rds P e f ok) : AR P t (fun l : List α => sl f .no l) fun l => l.length ≤ 9223372036854775807 ∧ ∀ a ∈ l, ok a :=
  fun h1 h2 => arg_one (f := fun l => [sl f .no l]) (fun _ => rfl) (rds_slice (td_spec h).1 hc he) (fun u hu => by rw [(td_spec h).1] at hu; cases hu; trivial) h1 h2
end
end Go.Sx
namespace Go.Sx
attribute [go_sem] one_w32 one_w8 one_nI one_nU one_str one_bool one_slice refy_sv refy_bp refy_agg refy_val refy_kp refy_tsl cl_len thenQ_n thenQ_r blockQ_n blockQ_r EndsR_r resL_one resC_tmp resC_cell rcP_arr rcP_struct Le_nil Le_cons CLe_refl CLe_top CLe_full CLe_nil CLe_own ev_tmp condG_bool noRef_fn true_and and_true
end Go.Sx
namespace Go.Sx
open Go.RowKit
abbrev Dig := {l : List UInt8 // l.length = 16}
instance : Inhabited Dig := ⟨⟨List.replicate 16 0, by simp⟩⟩
def dC (d : Dig) : List C := cl bC d.1
instance : Cel dC 16 := ⟨fun a => by unfold dC; rw [cl_len (f := bC), a.2], fun a => by unfold dC; exact cl_noR a.1, by decide, fun a r => by
  unfold dC
  obtain ⟨l, hl⟩ := a
  cases l with
  | nil => simp at hl
  | cons b l => rfl⟩
instance : Fla dC := ⟨fun a => by unfold dC; exact flats_cl bC a.1⟩
instance : Inj dC := ⟨fun a b h => Subtype.ext (cl_inj.1 h)⟩
theorem dC_eq (d : Dig) : dC d = cl bC d.1 := rfl
theorem rda_dropE {α : Type} [Inhabited α] {f : α → List C} {s : Nat} [hf : Cel f s] (l : List α) (k : Nat) (h : k < l.length) : rda ((cl f l).drop (k * s)) 0 s = some (.agg (f (gt l k))) := by
  rw [← gt_def, ← rda_clE (f := f) l k h]
  unfold rda
  simp only [List.length_drop, List.drop_drop, Nat.add_zero, Nat.zero_add]
  have h1 := cl_len (f := f) l
  have h2 : k * s + s ≤ l.length * s := by rw [← Nat.succ_mul]; exact Nat.mul_le_mul_right _ h
  rw [if_pos (by omega), if_pos (by omega)]
theorem bsA_dig (u : TypeDesc) (y : Nat) (z : List Value) (l : List UInt8) (h : l.length = 16) (hz : z.length = 16) (h1 : z.all (·.oneCell') = true) : bsA (some ⟨u, 16, y, z⟩) 1 [(0, .agg (cl bC l))] = some (vp (sl dC .full [⟨l, h⟩])) := by
  unfold bsA
  simp only [hz, h1]
  rw [if_pos ⟨by decide, by decide, trivial, trivial⟩]
  have hl := cl_len (f := bC) l
  have hr : (repZero z 1).length = 16 := by simp [repZero, hz]
  have hc : C.cells? (.agg (cl bC l)) = some (cl bC l) := by
    show some ((cl bC l).map C.noR) = _
    rw [cl_noR]
  unfold lay
  simp only [hc]
  rw [if_pos ⟨by omega, by omega⟩]
  unfold lay
  simp only [Option.map_some, splice, Nat.zero_mul, List.take_zero, List.nil_append, Nat.zero_add]
  rw [List.drop_of_length_le (by omega), List.append_nil]
  congr 2
  simp [sl, cl_cons, cl_nil, dC]
def res2 (a b : Option C) : Option C := match a, b with
  | some a, some b => some (.tup [a.noR, b.noR])
  | _, _ => none
def res3 (a b c : Option C) : Option C := match a, b, c with
  | some a, some b, some c => some (.tup [a.noR, b.noR, c.noR])
  | _, _, _ => none
theorem resL_2 (cx : Cx) (st : St) (r1 r2 : ResultVar) : resL cx st [r1, r2] = res2 (resC cx st r1) (resC cx st r2) := by
  unfold resL res2
  simp only [List.mapM_cons, List.mapM_nil, Option.bind_eq_bind, Option.pure_def]
  cases resC cx st r1 <;> cases resC cx st r2 <;> rfl
theorem resL_3 (cx : Cx) (st : St) (r1 r2 r3 : ResultVar) : resL cx st [r1, r2, r3] = res3 (resC cx st r1) (resC cx st r2) (resC cx st r3) := by
  unfold resL res3
  simp only [List.mapM_cons, List.mapM_nil, Option.bind_eq_bind, Option.pure_def]
  cases resC cx st r1 <;> cases resC cx st r2 <;> cases resC cx st r3 <;> rfl
theorem res2_some (a b : C) : res2 (some a) (some b) = some (.tup [a.noR, b.noR]) := rfl
theorem res3_some (a b c : C) : res3 (some a) (some b) (some c) = some (.tup [a.noR, b.noR, c.noR]) := rfl
attribute [go_sem] resL_2 resL_3 res2_some res3_some
attribute [go_sem] dC_eq rda_dropE bsA_dig
end Go.Sx
namespace Go.Sx
open Go.RowKit
theorem lay1s_i (n : Nat) (l : List Int) (i : Nat) (x : Int) (r : List (Nat × C)) (h : i < l.length) : lay1s n (cl iC l) ((i, .val (.int .i64 x)) :: r) = lay1s n (cl iC (l.set i x)) r := by
  have e := cl_set (f := iC) l i x h
  rw [Nat.mul_one] at e
  have e2 : splice (cl iC l) i [.val (.int .i64 x)] = cl iC (l.set i x) := e
  show (if [C.val (.int .i64 x)].length = 1 ∧ i + 1 ≤ (cl iC l).length then lay1s n (splice (cl iC l) i [.val (.int .i64 x)]) r else none) = _
  rw [if_pos ⟨rfl, by rw [cl_len (f := iC)]; omega⟩, e2]
theorem cl_nC_iC (l : List Nat) : cl nC l = cl iC (l.map Int.ofNat) := by
  unfold cl
  rw [List.flatMap_map]
  rfl
theorem lay1s_ni (n : Nat) (l : List Nat) (i : Nat) (x : Int) (r : List (Nat × C)) (h : i < l.length) : lay1s n (cl nC l) ((i, .val (.int .i64 x)) :: r) = lay1s n (cl iC ((l.map Int.ofNat).set i x)) r := by
  rw [cl_nC_iC, lay1s_i n _ i x r (by simpa using h)]
attribute [go_sem] lay1s_i lay1s_ni List.map_cons List.map_nil List.set_cons_zero
end Go.Sx
namespace Go.Sx
open Go.RowKit
theorem callR_hp (cx : Cx) (g : Nat) (az : List C) (b : Nat) (r : C × Hp) : callR cx g az (some b) (some r) = some (.call g az) := rfl
theorem callR_none (cx : Cx) (g : Nat) (az : List C) (o : Option (C × Hp)) : callR cx g az none o = some (.call g az) := rfl
theorem cells_sl {α : Type} (f : α → List C) (r : Rt) (l : List α) : (sl f r l).cells? = some [(sl f r l).noR] := rfl
attribute [go_sem] cells_sl callR_hp callR_none
end Go.Sx
namespace Go.Sx
open Go.RowKit
def lC {α : Type} (f : α → List C) (l : List α) : List C := [sl f .no l]
instance {α : Type} (f : α → List C) : Sca (lC f) (sl f .no) := ⟨fun _ => rfl, fun _ => rfl, fun _ => rfl, fun _ _ => rfl⟩
def seqL {α : Type} (f : α → List C) (k n : Nat) (acc : List (List α)) (parts : List (Nat × C)) : Option Plan :=
  lay1s n (cl (lC f) acc ++ List.replicate (n - k) (.val (.slice none 0 0))) parts
theorem seqL_next {α : Type} (f : α → List C) (k n : Nat) (acc : List (List α)) (c : C) (l : List α) (parts : List (Nat × C)) (hc : c.cells? = some [sl f .no l]) (h : acc.length = k ∧ k < n) : seqL f k n acc ((k, c) :: parts) = seqL f (k + 1) n (acc ++ [l]) parts := by
  obtain ⟨h, h2⟩ := h
  have hl : (cl (lC f) acc).length = k := by rw [cl_len (f := lC f), h, Nat.mul_one]
  have e : n - k = (n - (k + 1)) + 1 := by omega
  show (match c.cells? with
    | some cs => if cs.length = 1 ∧ k + 1 ≤ (cl (lC f) acc ++ List.replicate (n - k) (C.val (.slice none 0 0))).length then lay1s n (splice (cl (lC f) acc ++ List.replicate (n - k) (C.val (.slice none 0 0))) k cs) parts else none
    | none => none) = _
  rw [hc]
  simp only []
  rw [if_pos ⟨rfl, by rw [List.length_append, hl, List.length_replicate]; omega⟩]
  unfold seqL
  congr 1
  rw [cl_app, e, List.replicate_succ]
  unfold splice
  rw [List.take_append_of_le_length (by omega), List.take_of_length_le (by omega), List.append_assoc, List.append_assoc, List.length_singleton]
  congr 1
  rw [List.drop_append, List.drop_of_length_le (by omega), hl, show k + 1 - k = 1 by omega]
  rfl
theorem seqL_no {α : Type} (f : α → List C) (k n : Nat) (acc : List (List α)) (l : List α) (parts : List (Nat × C)) (h : acc.length = k ∧ k < n) : seqL f k n acc ((k, sl f .no l) :: parts) = seqL f (k + 1) n (acc ++ [l]) parts :=
  seqL_next f k n acc _ l parts rfl h
theorem seqL_nil {α : Type} (f : α → List C) (n : Nat) (acc : List (List α)) (h : acc.length = n) : seqL f n n acc [] = some (vp (sl (lC f) .full acc)) := by
  unfold seqL
  rw [Nat.sub_self, List.replicate_zero, List.append_nil]
  show some (vp (.sl .full n (cl (lC f) acc))) = _
  rw [← h]; rfl
theorem bsA_no {α : Type} (f : α → List C) (u : TypeDesc) (y n : Nat) (l : List α) (parts : List (Nat × C)) (hn : n ≤ 65536) : bsA (some ⟨u, 1, y, [.slice none 0 0]⟩) n ((0, sl f .no l) :: parts) = seqL f 0 n [] ((0, sl f .no l) :: parts) := by
  rw [bsA_one _ _ _ _ _ rfl hn]; rfl
attribute [go_sem] seqL_no seqL_nil bsA_no List.nil_append List.cons_append
end Go.Sx
namespace Go.Sx
open Go.RowKit
open Classical in
noncomputable def tabH {α : Type} (enc : α → List C × Hp) (out : α → C × Hp) (xs : List C) (h : Hp) : Option (C × Hp) :=
  if q : ∃ a, enc a = (xs, h) then some (out q.choose) else none
theorem tabH_enc {α : Type} {enc : α → List C × Hp} {out : α → C × Hp} (hi : ∀ a b, enc a = enc b → out a = out b) (a : α) : tabH enc out (enc a).1 (enc a).2 = some (out a) := by
  have h : ∃ b, enc b = ((enc a).1, (enc a).2) := ⟨a, rfl⟩
  unfold tabH
  rw [dif_pos h]
  exact congrArg some (hi _ _ h.choose_spec)
theorem tabH_some {α : Type} {enc : α → List C × Hp} {out : α → C × Hp} {xs : List C} {h : Hp} {r : C × Hp} (e : tabH enc out xs h = some r) : ∃ a, enc a = (xs, h) ∧ out a = r := by
  unfold tabH at e
  split at e
  · rename_i h2; exact ⟨_, h2.choose_spec, Option.some.inj e⟩
  · cases e
def extH (hp : Nat → List C → Hp → Option (C × Hp)) (f : Nat) (t : List C → Hp → Option (C × Hp)) : Nat → List C → Hp → Option (C × Hp) := fun g xs h => if g = f then t xs h else hp g xs h
theorem extH_hit {hp : Nat → List C → Hp → Option (C × Hp)} {f : Nat} {t : List C → Hp → Option (C × Hp)} (xs : List C) (h : Hp) : extH hp f t f xs h = t xs h := if_pos rfl
theorem extH_miss {hp : Nat → List C → Hp → Option (C × Hp)} {f g : Nat} {t : List C → Hp → Option (C × Hp)} (n : g ≠ f) (xs : List C) (h : Hp) : extH hp f t g xs h = hp g xs h := if_neg n
theorem CxOK.extH {P : Program} {km : TypeId → Value → Bool} {gl : Nat → C} {pu : Nat → List C → Option C} {hp : Nat → List C → Hp → Option (C × Hp)} {N M : Nat} (hcx : CxOK ⟨P, N, gl, pu, hp, fun _ => false, km⟩)
    {α : Type} {enc : α → List C × Hp} {out : α → C × Hp} {f : Nat} (h : ∀ a, FC P gl f (enc a).1 (enc a).2 (out a).1 (out a).2) : CxOK ⟨P, M, gl, pu, Sx.extH hp f (tabH enc out), fun _ => false, km⟩ := by
  refine ⟨hcx.glo, hcx.pu, fun g xs k c k' hc => ?_, hcx.km⟩
  by_cases hgf : g = f
  · subst hgf
    have hc' : tabH enc out xs k = some (c, k') := by rw [← hc]; exact (extH_hit xs k).symm
    obtain ⟨a, e1, e2⟩ := tabH_some hc'
    have := h a
    rw [e1, e2] at this
    exact this
  · have hc' : hp g xs k = some (c, k') := by rw [← hc]; exact (extH_miss hgf xs k).symm
    exact hcx.hp g xs k c k' hc'
end Go.Sx
namespace Go.Sx
open Go.RowKit Go.ChangeShapes Go.WideShapes
structure BulkOK {H : Type} (B : DataW H → Nat) (BA : List (DataW H) → Nat) : Prop where
  one : ∀ d, 1 ≤ B d
  str : ∀ s, B (.lit (.string s)) = s.length + 1
  slice : ∀ e s, B (.slice e s) = BA e + BA s + 1
  agg : ∀ e, B (.agg e) = BA e + 1
  nil : BA [] = 0
  cons : ∀ d r, BA (d :: r) = B d + BA r
end Go.Sx
namespace Go.Sx
open Go.RowKit Go.ChangeShapes Go.WideShapes
end Go.Sx
namespace Go.Sx
open Go.RowKit
theorem repL_vals {G : Gh} : ∀ {vals vs : List Value}, RepL G (vals.map .val) vs → vs = vals
  | [], vs, h => by simpa [RepL] using h
  | v :: vals, vs, h => by
    rw [List.map_cons] at h
    simp only [RepL] at h
    obtain ⟨u, us, rfl, h2, h3⟩ := h
    rw [rep_val] at h2
    rw [h2, repL_vals h3]
theorem FC.ofBelow {P : Program} {gl : Nat → C} {f : Nat} {vals : List Value} {v : Value} (he : Entered P f) (h : ∀ w, Calls P f vals.toArray w fun e w' => e = .returned v ∧ Below w.heap.size w w') : FC P gl f (vals.map .val) [] (.val v) [] := by
  refine ⟨he, fun G w vs W hT hg hr => ?_⟩
  obtain rfl : vs = vals.toArray := by rw [← repL_vals hr]
  refine (h w).mono ?_
  rintro e w' ⟨rfl, hb⟩
  have hlt : ∀ blk off u, G.K blk off = some u → blk < w.heap.size := fun blk off u hk => by
    have := W.known blk off u hk
    unfold World.cell? at this
    cases hq : w.heap[blk]? with
    | none => rw [hq] at this; simp at this
    | some o => exact (Array.getElem?_eq_some_iff.1 hq).1
  have hn : ∀ b cells, Hp.at [] b ≠ some cells := fun b cells => by simp [Hp.at]
  refine ⟨v, G, rfl, rep_val.2 rfl, (fun s n xs e => by cases e), ⟨fun blk off u hk => ?_, fun b cells hc => (hn b cells hc).elim, (fun b blk x => ⟨(W.dom b blk x).1, Nat.lt_of_lt_of_le (W.dom b blk x).2 hb.size⟩), W.inj, W.sep, (fun g p hp => Nat.lt_of_lt_of_le (W.tlt g p hp) hb.size), (fun b cells off s n xs blk v hc => (hn b cells hc).elim), fun b z hz => ?_, (fun b l hb => by simp [Hp.mp] at hb), (fun b b' l l' blk hb => by simp [Hp.mp] at hb)⟩,
    ⟨hb.os, hb.tape, hb.output, hb.size, .refl G, fun g hg' ht hm => ⟨hb.block g hg', ht, hm, fun _ => rfl⟩⟩⟩
  · rw [← W.known blk off u hk]
    unfold World.cell?
    rw [hb.block blk (hlt blk off u hk)]
  · obtain ⟨blk, cs, e, fr, q1, q2, q3⟩ := W.siz b z hz
    obtain ⟨⟨c, hc⟩, _⟩ := W.dom b blk q1
    simp at hc
end Go.Sx
