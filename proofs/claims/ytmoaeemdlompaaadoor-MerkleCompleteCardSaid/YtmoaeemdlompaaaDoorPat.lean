/-
  Package merkle: contracts of the closures that call themselves, as the tables take them. And what follows.
-/
import Derived.Test.YtmoaeemdlompaaaDoorPas
import Derived.Test.YtmoaeemdlompaaaDoorPaq
import Derived.Test.YtmoaeemdlompaaaDoorPar
import Derived.Test.YtmoaeemdlompaaaDoorPan
set_option linter.unusedSimpArgs false
set_option linter.unusedVariables false
namespace Go.Sx
open Go.RowKit Go.Proofs
set_option maxRecDepth 100000
theorem hnr_ext {pu : Nat → List C → Option C} (hnr : ∀ f xs, noRefs 0 xs = false → pu f xs = none) {α : Type} {enc : α → List C} {out : α → C} {f : Nat} (he : ∀ a, noRefs 0 (enc a) = true) : ∀ g xs, noRefs 0 xs = false → Sx.ext pu f (tabOf enc out) g xs = none := fun g xs hr => by
  by_cases hgf : g = f
  · subst hgf
    rw [ext_hit]
    cases hq : tabOf enc out xs with
    | none => rfl
    | some c =>
      obtain ⟨a, rfl, _⟩ := tabOf_some hq
      rw [he a] at hr; cases hr
  · rw [ext_miss hgf]; exact hnr g xs hr
theorem eC_inj {x y : Leaf} : eC x = eC y ↔ x = y := ⟨fun h => Inj.inj _ _ h, fun h => by rw [h]⟩
theorem S8_inj {s t : S8} : s.l = t.l ↔ s = t := by
  constructor
  · intro h
    obtain ⟨a, b, c, d, e, f, g, i⟩ := s
    obtain ⟨a', b', c', d', e', f', g', i'⟩ := t
    simpa [S8.l] using h
  · rintro rfl; rfl
theorem cells_inj {s s' : S8} {b b' : List UInt8} {n n' : Nat} (hb : b.length = 64) (hb' : b'.length = 64) (h : cl wC s.l ++ (cl bC b ++ [C.val (nU n)]) = cl wC s'.l ++ (cl bC b' ++ [C.val (nU n')])) : s = s' ∧ b = b' ∧ n = n' := by
  rw [app_inj (f := wC) (by rw [S8.l_len, S8.l_len]), app_inj (f := bC) (by rw [hb, hb'])] at h
  simp only [S8_inj, List.cons.injEq, C.val.injEq, nU_inj, and_true] at h
  exact h
theorem feed_out (s s' : S8) (b b' : List UInt8) (n n' : Nat) (t t' : List UInt8) (hb : b.length = 64) (hb' : b'.length = 64)
    (h : [C.agg (cl wC s.l ++ (cl bC b ++ [C.val (nU n)])), C.val (str t)] = [C.agg (cl wC s'.l ++ (cl bC b' ++ [C.val (nU n')])), C.val (str t')]) : C.agg (feed ⟨s, b, n⟩ t).cells = C.agg (feed ⟨s', b', n'⟩ t').cells := by
  simp only [List.cons.injEq, C.agg.injEq, C.val.injEq, str_inj, and_true] at h
  obtain ⟨rfl, rfl, rfl⟩ := cells_inj hb hb' h.1
  rw [h.2]
theorem sum_out (s s' : S8) (b b' : List UInt8) (n n' : Nat) (hb : b.length = 64) (hb' : b'.length = 64)
    (h : [C.agg (cl wC s.l ++ (cl bC b ++ [C.val (nU n)]))] = [C.agg (cl wC s'.l ++ (cl bC b' ++ [C.val (nU n')]))]) : C.agg (cl bC (sumF ⟨s, b, n⟩)) = C.agg (cl bC (sumF ⟨s', b', n'⟩)) := by
  simp only [List.cons.injEq, C.agg.injEq, and_true] at h
  obtain ⟨rfl, rfl, rfl⟩ := cells_inj hb hb' h
  rfl
section
variable {gl : Nat → C} {M : Nat} {pu : Nat → List C → Option C}
structure A91 where
  (l : List Leaf) (f e z : Nat) (lv : List Leaf) (S : List Dig) (d a b : Nat)
  ok : OkL l ∧ (f ≤ 5000 ∧ e ≤ 5000) ∧ S.length ≤ 100000 - 2 ^ d ∧ d ≤ 12 ∧ a < b ∧ b ≤ l.length ∧ b - a ≤ 2 ^ d
abbrev F91 (gl : Nat → C) (q : A91) : Prop := FC Tryd.prog gl 91 [.val (nI q.a), .val (nI q.b), .kp [.val (nI q.f)], .kp [.val (nI q.e)], .bp 0 0, .kp [sl eC .no q.l], atG 91 [.kp [.val (nI q.f)], .kp [.val (nI q.e)], .bp 0 0, .kp [sl eC .no q.l]] q.d] [some [.val (nI q.f), .val (nI q.z), sl eC .no q.lv, sl dC (.own 16) q.S]] (.tup []) [some [.val (nI q.f), .val (nI q.z), sl eC .no q.lv, sl dC (.own 16) (q.S ++ sdsT q.l q.f q.e q.d q.a q.b)]]
def s91 (W : A91 → Prop) (fc : ∀ q : A91, W q → F91 gl q) : Small Tryd.prog gl 91 {q : A91 // W q} where
  k := 1
  j := 4
  args q := [.val (nI q.1.a), .val (nI q.1.b), .kp [.val (nI q.1.f)], .kp [.val (nI q.1.e)], .bp 0 0, .kp [sl eC .no q.1.l], atG 91 [.kp [.val (nI q.1.f)], .kp [.val (nI q.1.e)], .bp 0 0, .kp [sl eC .no q.1.l]] q.1.d]
  X q := [some [.val (nI q.1.f), .val (nI q.1.z), sl eC .no q.1.lv, sl dC (.own 16) q.1.S]]
  r q := .tup []
  Y q := [some [.val (nI q.1.f), .val (nI q.1.z), sl eC .no q.1.lv, sl dC (.own 16) (q.1.S ++ sdsT q.1.l q.1.f q.1.e q.1.d q.1.a q.1.b)]]
  k0 := by decide
  hk _ := rfl
  hy _ := rfl
  al q := fun o h => by rw [List.mem_singleton.1 h]; rfl
  nr q := by
    simp only [noRefs_cons, noRefs_nil, noRef_val, noRef_kp, noRef_sl, Bool.and_true, Bool.true_and]
    rw [atG_nr 1 91 _ (by simp only [noRefs_cons, noRefs_nil, noRef_val, noRef_kp, noRef_sl, Bool.and_true, Bool.true_and]; rfl)]; rfl
  nx q := prf_nr _ _ _ _
  at0 q := ⟨0, rfl⟩
  inj := fun x y h1 h2 => by
    simp only [List.cons.injEq, Option.some.injEq, C.val.injEq, C.kp.injEq, nI_inj, sl_inj, and_true, true_and] at h1 h2
    have e := atG_inj h1.2.2.2.2.2
    simp only [h1, h2, e, and_self]
  fc q := fc q.1 q.2
theorem look91 (W : A91 → Prop) (fc : ∀ q : A91, W q → F91 gl q) (hp : Nat → List C → Hp → Option (C × Hp)) (q : A91) (hq : W q) (pre suf : Hp) (h0 : OkH pre) (h1 : OkH suf) :
    (s91 W fc).tab hp 91 [.val (nI q.a), .val (nI q.b), .kp [.val (nI q.f)], .kp [.val (nI q.e)], .bp pre.length 0, .kp [sl eC .no q.l], atG 91 [.kp [.val (nI q.f)], .kp [.val (nI q.e)], .bp pre.length 0, .kp [sl eC .no q.l]] q.d] (pre ++ ([some [.val (nI q.f), .val (nI q.z), sl eC .no q.lv, sl dC (.own 16) q.S]] ++ suf)) = some (.tup [], pre ++ ([some [.val (nI q.f), .val (nI q.z), sl eC .no q.lv, sl dC (.own 16) (q.S ++ sdsT q.l q.f q.e q.d q.a q.b)]] ++ suf)) := by
  have h := Small.look (s91 W fc) hp ⟨q, hq⟩ pre suf h0 h1
  simpa only [s91, atG_bk, List.length_nil, Nat.zero_add, Nat.add_zero, bkCs, bkC, bks_cl, bk_sl, shH_cons, shH_nil, Option.map_some, List.map_cons, List.map_nil, List.nil_append, List.cons_append] using h
theorem fc91 (hcx : CxOK (cxP gl M pu)) (hnr : ∀ (g : Nat) (xs : List C), noRefs 0 xs = false → pu g xs = none) (h51 : ∀ l : List Leaf, OkL l → 0 < l.length → pu 51 [sl eC .no l] = some (.agg (cl bC (digT l)))) (h81 : ∀ x y : Nat, x ≤ y ∧ y ≤ 4611686018427387000 → pu 81 [.val (nI x), .val (nI y)] = some (.val (nI (x + halfT (y - x))))) : ∀ (d : Nat) (q : A91), q.d = d → F91 gl q
  | 0, ⟨l, f, e, z, lv, S, d, a, b, hk⟩, hd => by
    obtain rfl : d = 0 := hd
    obtain ⟨k1, k2, k3, k4, k5⟩ := hk
    exact fc91z (hcx := toR hcx M) (l := l) (f := f) (e := e) (z := z) (lv := lv) (S := S) (d := 0) (a := a) (b := b) (hl := k1) (hf := k2) (hab := k5) (hS := k3) (hd := k4) (hz := .inr (.inr k5.2.2)) (hnr := hnr) (h51 := h51)
  | d + 1, ⟨l, f, e, z, lv, S, d', a, b, hk⟩, hd => by
    obtain rfl : d' = d + 1 := hd
    obtain ⟨k1, k2, k3, k4, k5⟩ := hk
    by_cases hz : b ≤ f ∨ e ≤ a ∨ b - a ≤ 1
    · exact fc91z (hcx := toR hcx M) (l := l) (f := f) (e := e) (z := z) (lv := lv) (S := S) (d := d + 1) (a := a) (b := b) (hl := k1) (hf := k2) (hab := k5) (hS := k3) (hd := k4) (hz := hz) (hnr := hnr) (h51 := h51)
    · have F := fc91 hcx hnr h51 h81 d
      exact fc91s (hcx := CxOK.sm (M := M) (toR hcx M) ⟨_, Tryd.func91, rfl, rfl⟩ (s91 (fun q => q.d = d) F)) (l := l) (f := f) (e := e) (z := z) (lv := lv) (S := S) (d := d) (a := a) (b := b) (hl := k1) (hf := k2) (hab := k5) (hS := k3) (hd := k4)
        (hq91 := fun S a b h1 h2 => by
          have h := look91 (fun q => q.d = d) F (fun _ _ _ => none) ⟨l, f, e, z, lv, S, d, a, b, k1, k2, h1, by omega, h2⟩ rfl [] [] OkH.nil OkH.nil
          simpa only [List.length_nil, List.nil_append, List.append_nil] using h)
        (hz1 := by omega) (hz2 := by omega) (hz3 := by omega) (hnr := hnr) (hn91 := fun xs h => Small.never _ _ xs h) (h81 := h81)
theorem fc57' (hcx : CxOK (cxP gl M pu)) (hnr : ∀ (g : Nat) (xs : List C), noRefs 0 xs = false → pu g xs = none) (h63 : ∀ l : List Leaf, l.length ≤ 1000000 → pu 63 [sl eC .no l] = some (sl eC (.own 2) l)) (h51 : ∀ l : List Leaf, OkL l → 0 < l.length → pu 51 [sl eC .no l] = some (.agg (cl bC (digT l)))) (h81 : ∀ x y : Nat, x ≤ y ∧ y ≤ 4611686018427387000 → pu 81 [.val (nI x), .val (nI y)] = some (.val (nI (x + halfT (y - x))))) (l : List Leaf) (f e : Nat) (hl : OkL l) (hfe : f ≤ e ∧ e ≤ l.length) :
    FC Tryd.prog gl 57 [sl eC .no l, .val (nI f), .val (nI e)] [] (.agg [.val (nI f), .val (nI l.length), sl eC .no ((l.drop f).take (e - f)), sl dC .no (shdT l f e)]) [] := by
  have F : ∀ q : A91, True → F91 gl q := fun q _ => fc91 hcx hnr h51 h81 q.d q rfl
  exact fc57 (hcx := CxOK.sm (M := M) (toR hcx M) ⟨_, Tryd.func91, rfl, rfl⟩ (s91 (fun _ => True) F)) (hnr := hnr) (h63 := h63) (hn91 := fun xs h => Small.never _ _ xs h)
    (hq91 := fun pre suf l f e z lv S d a b h0 h1 h2 h3 h4 h5 h6 => look91 _ F _ ⟨l, f, e, z, lv, S, d, a, b, h2, h3, h4, h5, h6⟩ True.intro pre suf h0 h1) (l := l) (f := f) (e := e) (hl := hl) (hfe := hfe)
structure A93 where
  (l : List Leaf) (f z : Nat) (S0 : List Dig) (st : US) (d a b : Nat)
  ok : OkL l ∧ f ≤ 5000 ∧ st.2.length ≤ 1000000 ∧ a < b ∧ b ≤ 5000 ∧ b - a ≤ 2 ^ d
abbrev F93 (gl : Nat → C) (q : A93) : Prop := FC Tryd.prog gl 93 [.val (nI q.a), .val (nI q.b), .bp 0 0, .kp [.val (nI q.f), .val (nI q.z), sl eC .no q.l, sl dC .no q.S0], .kp [.val (nI (q.f + q.l.length))], .bp 1 0, atG 93 [.bp 0 0, .kp [.val (nI q.f), .val (nI q.z), sl eC .no q.l, sl dC .no q.S0], .kp [.val (nI (q.f + q.l.length))], .bp 1 0] q.d] [some [.val (.bool q.st.1)], some [sl dC .no q.st.2]] (.agg (cl bC (unO q.l q.f q.d q.a q.b q.st).1)) [some [.val (.bool (unO q.l q.f q.d q.a q.b q.st).2.1)], some [sl dC .no (unO q.l q.f q.d q.a q.b q.st).2.2]]
def s93 (W : A93 → Prop) (fc : ∀ q : A93, W q → F93 gl q) : Small Tryd.prog gl 93 {q : A93 // W q} where
  k := 2
  j := 2
  args q := [.val (nI q.1.a), .val (nI q.1.b), .bp 0 0, .kp [.val (nI q.1.f), .val (nI q.1.z), sl eC .no q.1.l, sl dC .no q.1.S0], .kp [.val (nI (q.1.f + q.1.l.length))], .bp 1 0, atG 93 [.bp 0 0, .kp [.val (nI q.1.f), .val (nI q.1.z), sl eC .no q.1.l, sl dC .no q.1.S0], .kp [.val (nI (q.1.f + q.1.l.length))], .bp 1 0] q.1.d]
  X q := [some [.val (.bool q.1.st.1)], some [sl dC .no q.1.st.2]]
  r q := .agg (cl bC (unO q.1.l q.1.f q.1.d q.1.a q.1.b q.1.st).1)
  Y q := [some [.val (.bool (unO q.1.l q.1.f q.1.d q.1.a q.1.b q.1.st).2.1)], some [sl dC .no (unO q.1.l q.1.f q.1.d q.1.a q.1.b q.1.st).2.2]]
  k0 := by decide
  hk _ := rfl
  hy _ := rfl
  al q := fun o h => by
    rcases List.mem_cons.1 h with h | h
    · rw [h]; rfl
    · rw [List.mem_singleton.1 h]; rfl
  nr q := by
    simp only [noRefs_cons, noRefs_nil, noRef_val, noRef_kp, noRef_sl, Bool.and_true, Bool.true_and]
    rw [atG_nr 2 93 _ (by simp only [noRefs_cons, noRefs_nil, noRef_val, noRef_kp, noRef_sl, Bool.and_true, Bool.true_and]; rfl)]; rfl
  nx q := und_nr _ _
  at0 q := ⟨0, rfl⟩
  inj := fun x y h1 h2 => by
    simp only [List.cons.injEq, Option.some.injEq, C.val.injEq, C.kp.injEq, Value.bool.injEq, nI_inj, sl_inj, and_true, true_and] at h1 h2
    have e := atG_inj h1.2.2.2.2
    have e2 : x.1.st = y.1.st := Prod.ext h2.1 h2.2
    simp only [h1, e2, e, and_self]
  fc q := fc q.1 q.2
theorem look93 (W : A93 → Prop) (fc : ∀ q : A93, W q → F93 gl q) (hp : Nat → List C → Hp → Option (C × Hp)) (q : A93) (hq : W q) (suf : Hp) (h1 : OkH suf) :
    (s93 W fc).tab hp 93 [.val (nI q.a), .val (nI q.b), .bp 0 0, .kp [.val (nI q.f), .val (nI q.z), sl eC .no q.l, sl dC .no q.S0], .kp [.val (nI (q.f + q.l.length))], .bp 1 0, atG 93 [.bp 0 0, .kp [.val (nI q.f), .val (nI q.z), sl eC .no q.l, sl dC .no q.S0], .kp [.val (nI (q.f + q.l.length))], .bp 1 0] q.d] ([some [.val (.bool q.st.1)], some [sl dC .no q.st.2]] ++ suf) = some (.agg (cl bC (unO q.l q.f q.d q.a q.b q.st).1), [some [.val (.bool (unO q.l q.f q.d q.a q.b q.st).2.1)], some [sl dC .no (unO q.l q.f q.d q.a q.b q.st).2.2]] ++ suf) := by
  have h := Small.look (s93 W fc) hp ⟨q, hq⟩ [] suf OkH.nil h1
  simpa only [s93, atG_bk, List.length_nil, Nat.zero_add, Nat.add_zero, bkCs, bkC, bks_cl, bk_sl, shH_cons, shH_nil, Option.map_some, List.map_cons, List.map_nil, List.nil_append, List.cons_append] using h
theorem fc93 (hcx : CxOK (cxP gl M pu)) (hnr : ∀ (g : Nat) (xs : List C), noRefs 0 xs = false → pu g xs = none) (h80 : ∀ x : Leaf, x.1.length ≤ 65536 ∧ x.2.length ≤ 65536 → pu 80 [.agg (eC x)] = some (.agg (cl bC (lefT x)))) (h81 : ∀ x y : Nat, x ≤ y ∧ y ≤ 4611686018427387000 → pu 81 [.val (nI x), .val (nI y)] = some (.val (nI (x + halfT (y - x))))) (h82 : ∀ a b : List UInt8, a.length = 16 → b.length = 16 → pu 82 [.agg (cl bC a), .agg (cl bC b)] = some (.agg (cl bC (nodT a b)))) : ∀ (d : Nat) (q : A93), q.d = d → F93 gl q
  | 0, ⟨l, f, z, S0, st, d, a, b, hk⟩, hd => by
    obtain rfl : d = 0 := hd
    obtain ⟨k1, k2, k3, k4⟩ := hk
    exact fc93z (hcx := toR hcx M) (l := l) (f := f) (z := z) (S0 := S0) (st := st) (d := 0) (a := a) (b := b) (hl := k1) (hf := k2) (hS := k3) (hab := k4) (hz := .inr (.inr (.inr k4.2.2))) (hnr := hnr) (h80 := h80)
  | d + 1, ⟨l, f, z, S0, st, d', a, b, hk⟩, hd => by
    obtain rfl : d' = d + 1 := hd
    obtain ⟨k1, k2, k3, k4⟩ := hk
    by_cases hz : st.1 = false ∨ b ≤ f ∨ f + l.length ≤ a ∨ b - a ≤ 1
    · exact fc93z (hcx := toR hcx M) (l := l) (f := f) (z := z) (S0 := S0) (st := st) (d := d + 1) (a := a) (b := b) (hl := k1) (hf := k2) (hS := k3) (hab := k4) (hz := hz) (hnr := hnr) (h80 := h80)
    · have F := fc93 hcx hnr h80 h81 h82 d
      have hst : st.1 = true := by
        cases h : st.1 with
        | true => rfl
        | false => exact (hz (.inl h)).elim
      exact fc93s (hcx := CxOK.sm (M := M) (toR hcx M) ⟨_, Tryd.func93, rfl, rfl⟩ (s93 (fun q => q.d = d) F)) (l := l) (f := f) (z := z) (S0 := S0) (st := st) (d := d) (a := a) (b := b) (hl := k1) (hf := k2) (hS := k3) (hab := k4)
        (hq93 := fun suf st a b h1 h2 h3 => look93 (fun q => q.d = d) F _ ⟨l, f, z, S0, st, d, a, b, k1, k2, h2, h3⟩ rfl suf h1)
        (hz0 := hst) (hz1 := by omega) (hz2 := by omega) (hz3 := by omega) (hnr := hnr) (h81 := h81) (h82 := h82)
theorem fc61' (hcx : CxOK (cxP gl M pu)) (hnr : ∀ (g : Nat) (xs : List C), noRefs 0 xs = false → pu g xs = none) (h15 : ∀ l : List Leaf, LB l → pu 15 [sl eC .no l] = some (.val (nI (valT l)))) (h50 : ∀ (n : Nat) (d : List UInt8), n ≤ 4096 → d.length = 16 → pu 50 [.val (nI n), .agg (cl bC d)] = some (.agg (cl bC (rotT n d)))) (h80 : ∀ x : Leaf, x.1.length ≤ 65536 ∧ x.2.length ≤ 65536 → pu 80 [.agg (eC x)] = some (.agg (cl bC (lefT x)))) (h81 : ∀ x y : Nat, x ≤ y ∧ y ≤ 4611686018427387000 → pu 81 [.val (nI x), .val (nI y)] = some (.val (nI (x + halfT (y - x))))) (h82 : ∀ a b : List UInt8, a.length = 16 → b.length = 16 → pu 82 [.agg (cl bC a), .agg (cl bC b)] = some (.agg (cl bC (nodT a b))))
    (r : List UInt8) (f z : Int) (l : List Leaf) (S : List Dig) (hr : r.length = 16) (hf : -9223372036854775808 ≤ f ∧ f ≤ 9223372036854775807) (hz : -9223372036854775808 ≤ z ∧ z ≤ 9223372036854775807) (hl : LB l) (hS : S.length ≤ 1000000) :
    FC Tryd.prog gl 61 [.agg [.val (.int .i64 f), .val (.int .i64 z), sl eC .no l, sl dC .no S], .agg (cl bC r)] [] (.val (.bool (undT r f z l S))) [] := by
  have F : ∀ q : A93, True → F93 gl q := fun q _ => fc93 hcx hnr h80 h81 h82 q.d q rfl
  exact fc61 (hcx := CxOK.sm (M := M) (toR hcx M) ⟨_, Tryd.func93, rfl, rfl⟩ (s93 (fun _ => True) F)) (hnr := hnr) (h15 := h15) (h50 := h50)
    (hq93 := fun suf l f z S0 st d a b h1 h2 h3 h4 h5 => look93 _ F _ ⟨l, f, z, S0, st, d, a, b, h2, h3, h4, h5⟩ True.intro suf h1) (r := r) (f := f) (z := z) (l := l) (S := S) (hr := hr) (hf := hf) (hz := hz) (hl := hl) (hS := hS)
theorem fc63 (hcx : CxOK (cxP gl M pu)) (l : List Leaf) (hl : l.length ≤ 1000000) : FC Tryd.prog gl 63 [sl eC .no l] [] (sl eC (.own 2) l) [] := by
  by_cases h : l = []
  · subst h
    refine FC.ofNil (pre := []) (post := []) ⟨_, Tryd.func63, rfl, rfl⟩ fun a cap hc => ?_
    cases a with
    | none => exact fc63b hcx cap hc
    | some x => exact fc63c hcx x cap hc
  · exact fc63a hcx l hl h
theorem noRef_fnM (k f : Nat) (xs : List C) : noRef k (.fn f xs) = noRefs k xs := rfl
theorem noRef_eC (k : Nat) (x : Leaf) : noRefs k (eC x) = true := rfl
theorem atG_nr79 (k : Nat) (l : List Leaf) (d : Nat) : noRef k (atG 79 [.kp [sl eC .no l]] d) = true := atG_nr k 79 _ (by simp only [noRefs_cons, noRefs_nil, noRef_kp, noRef_sl, Bool.and_self]) d
theorem fc90' (hcx : CxOK (cxP gl M pu)) (a b : List UInt8) : FC Tryd.prog gl 90 [.val (str a), .val (str b)] [] (.val (.int .i64 (cmpB a b))) [] := fc90 a b
theorem fc39 (hcx : CxOK (cxP gl M pu)) (n : Int) (hn : -9223372036854775808 ≤ n ∧ n ≤ 9223372036854775807) : FC Tryd.prog gl 39 [.val (.int .i64 n)] [] (sl bC (.own 1) (wint n)) [] := by
  by_cases h : 0 ≤ n
  · obtain ⟨m, rfl⟩ : ∃ m : Nat, n = (m : Int) := ⟨n.toNat, by omega⟩
    rw [wint_pos]; exact fc39p hcx m (by omega)
  · obtain ⟨m, rfl⟩ : ∃ m : Nat, n = -1 - (m : Int) := ⟨(-1 - n).toNat, by omega⟩
    rw [wint_neg _ (le_len 8 m (by omega))]; exact fc39n hcx m (by omega)
end
end Go.Sx
namespace Go.Sx
open Go.RowKit Go.Proofs
theorem from_b {l : List Leaf} {k : List UInt8} (hs : Srt l) {j : Nat} (hj : j < l.length) : (bl (gt l j).1 k = true) = (j < fromT l k) := by
  apply propext
  constructor
  · exact from_lt hs hj
  · intro h
    cases e : bl (gt l j).1 k with
    | true => rfl
    | false => have := from_ge hs hj e; omega
theorem Srt.sub {l : List Leaf} (hs : Srt l) (a n : Nat) (h : a + n ≤ l.length) : Srt ((l.drop a).take n) := fun i j hij hj => by
  have hl : ((l.drop a).take n).length = n := by rw [List.length_take, List.length_drop]; omega
  rw [gt_sub l a n i (by omega) (by omega), gt_sub l a n j (by omega) (by omega)]
  exact hs _ _ (by omega) (by omega)
theorem sub_len {l : List Leaf} {a n : Nat} (h : a + n ≤ l.length) : ((l.drop a).take n).length = n := by rw [List.length_take, List.length_drop]; omega
theorem from_sub {l : List Leaf} (hs : Srt l) (k : List UInt8) (a n : Nat) (h : a + n ≤ l.length) : fromT ((l.drop a).take n) k = min (fromT l k - a) n := by
  have hl := sub_len h
  refine from_eq (hs.sub a n h) (by omega) (fun x hx => ?_) (fun x hx hx2 => ?_)
  · rw [gt_sub l a n x (by omega) (by omega), from_b hs (by omega)]; omega
  · rw [gt_sub l a n x (by omega) (by omega)]
    cases e : bl (gt l (a + x)).1 k with
    | false => rfl
    | true => rw [from_b hs (by omega)] at e; omega
/-- Whether a key is there, and its place. -/
def isT (l : List Leaf) (k : List UInt8) : Prop := fromT l k < l.length ∧ (gt l (fromT l k)).1 = k
instance (l : List Leaf) (k : List UInt8) : Decidable (isT l k) := inferInstanceAs (Decidable (_ ∧ _))
theorem hasI_is {l : List Leaf} {k : List UInt8} (hs : Srt l) : hasI l k = if isT l k then ((fromT l k : Nat) : Int) else -1 := by
  have h := has_from (k := k) hs
  by_cases hi : isT l k
  · rw [if_pos hi]
    have h0 : ((0 : Nat) : Int) ≤ hasI l k := by rw [h]; exact hi
    unfold hasI at h0 ⊢
    cases hh : hasT l k with
    | none => rw [hh] at h0; simp at h0
    | some n =>
      unfold hasT at hh
      rw [List.findIdx?_eq_some_iff_getElem] at hh
      obtain ⟨h1, h2, _⟩ := hh
      have e : gt l n = l[n] := by simp [gt, List.getD, List.getElem?_eq_getElem h1]
      have hk : (gt l n).1 = k := by rw [e]; simpa using h2
      rw [from_at hs h1 hk]; rfl
  · rw [if_neg hi]
    have h0 : ¬ ((0 : Nat) : Int) ≤ hasI l k := by rw [h]; exact hi
    unfold hasI at h0 ⊢
    cases hh : hasT l k with
    | none => rfl
    | some n => rw [hh] at h0; simp at h0
theorem chk_prv {l : List Leaf} (hv : valT l = 0) (k : List UInt8) :
    chkT (rotL l) k ((prvT l k).1.1 : Nat) ((prvT l k).1.2.1 : Nat) (prvT l k).1.2.2.1 (prvT l k).1.2.2.2 = (if isT l k then (gt l (fromT l k)).2 else [], decide (isT l k), 0) := by
  have hs := valT_srt hv
  have hle := from_le l k
  by_cases hi : isT l k
  · have hi' := hi
    obtain ⟨h1, h2⟩ := hi'
    rw [prv_2 rfl hv h1 h2, if_pos hi, decide_eq_true hi]
    have hu := und_shw hv (f := fromT l k) (e := fromT l k + 1) (by omega) (by omega) (by omega)
    have hn : fromT l k + (fromT l k + 1 - fromT l k) ≤ l.length := by omega
    have hf := from_sub hs k (fromT l k) (fromT l k + 1 - fromT l k) hn
    have hl := sub_len hn
    have g := gt_sub l (fromT l k) (fromT l k + 1 - fromT l k) 0 (by omega) (by omega)
    simp only [shwT]
    rw [chk_2 (i := 0) (by rw [hf]; omega) hu (by omega) (by rw [g]; exact h2), g]; rfl
  · rw [prv_3 rfl hv hi, if_neg hi, decide_eq_false hi]
    have hu := und_shw hv (f := fromT l k - 1) (e := min (fromT l k + 1) l.length) (by omega) (by omega) (by omega)
    have hn : fromT l k - 1 + (min (fromT l k + 1) l.length - (fromT l k - 1)) ≤ l.length := by omega
    have hf := from_sub hs k _ _ hn
    have hl := sub_len hn
    simp only [shwT]
    rw [chk_3 (i := fromT l k - (fromT l k - 1)) (by rw [hf]; omega) hu ?_ ?_]
    · rintro ⟨q1, q2⟩
      rw [gt_sub l _ _ _ (by omega) (by omega), show fromT l k - 1 + (fromT l k - (fromT l k - 1)) = fromT l k by omega] at q2
      exact hi ⟨by omega, q2⟩
    · rw [hl]; omega
theorem ins_at {l : List Leaf} (hs : Srt l) (x y : List UInt8) : ∀ i, i ≤ l.length → insT l x y i = (l.take (min i (fromT l y))).drop (fromT l x)
  | 0, _ => by simp [insT]
  | i + 1, h => by
    have ih := ins_at hs x y i (by omega)
    have hl : (l.take i).length = i := by rw [List.length_take]; omega
    by_cases h1 : i < fromT l x
    · rw [← ins_F (by omega) (.inl (by rw [from_b hs (by omega)]; exact h1)), ih, List.drop_of_length_le (by rw [List.length_take]; omega), List.drop_of_length_le (by rw [List.length_take]; omega)]
    · have hx : bl (gt l i).1 x = false := by
        cases e : bl (gt l i).1 x with
        | false => rfl
        | true => rw [from_b hs (by omega)] at e; exact (h1 e).elim
      by_cases h2 : i < fromT l y
      · rw [← ins_T (by omega) hx (by rw [from_b hs (by omega)]; exact h2), ih, Nat.min_eq_left (by omega), Nat.min_eq_left (by omega), take_snoc l i (by omega), List.drop_append_of_le_length (by omega)]
      · have hy : bl (gt l i).1 y = false := by
          cases e : bl (gt l i).1 y with
          | false => rfl
          | true => rw [from_b hs (by omega)] at e; exact (h2 e).elim
        rw [← ins_F (by omega) (.inr hy), ih, show min (i + 1) (fromT l y) = min i (fromT l y) by omega]
theorem crg_rng {l : List Leaf} (hv : valT l = 0) {x y : List UInt8} (h : bl y x = false) :
    crgT (rotL l) x y ((rngT l x y).1.1 : Nat) ((rngT l x y).1.2.1 : Nat) (rngT l x y).1.2.2.1 (rngT l x y).1.2.2.2 = (insT l x y l.length, 0) := by
  have hs := valT_srt hv
  have hx := from_le l x
  have hy := from_le l y
  have hm := from_mono hs h
  rw [rng_3 hv (by rw [h]; simp)]
  have hu := und_shw hv (f := fromT l x - 1) (e := min (fromT l y + 1) l.length) (by omega) (by omega) (by omega)
  have hn : fromT l x - 1 + (min (fromT l y + 1) l.length - (fromT l x - 1)) ≤ l.length := by omega
  have hfx := from_sub hs x _ _ hn
  have hfy := from_sub hs y _ _ hn
  have hl := sub_len hn
  simp only [shwT]
  rw [crg_4 rfl rfl h hu (by rw [hfx, hfy, hl]; omega), hfx, hfy, ins_at hs x y _ (Nat.le_refl _)]
  congr 1
  rw [Nat.min_eq_right hy, List.drop_take, List.drop_take, List.take_take, List.drop_drop]
  congr 1
  · omega
  · congr 1; omega
theorem shd_24 {l : List Leaf} (h : l.length ≤ 11) (f e : Nat) : (shdT l f e).length ≤ 24 := by
  unfold shdT
  split
  · simp
  · rw [sds_st l f e 12 4 0 l.length (by show _ ≤ 4096; omega) (by show _ ≤ 16; omega)]
    have := sds_len l f e 4 0 l.length
    have e : (2 : Nat) ^ 4 = 16 := rfl
    omega
theorem prv_24 {l : List Leaf} (h : l.length ≤ 11) (hv : valT l = 0) (k : List UInt8) : (prvT l k).1.2.2.2.length ≤ 24 := by
  unfold prvT
  rw [if_pos hv]
  simp only []
  split <;> exact shd_24 h _ _
theorem prv_ok {l : List Leaf} (hv : valT l = 0) (k : List UInt8) : (prvT l k).2 = 0 := by unfold prvT; rw [if_pos hv]
theorem rng_ok {l : List Leaf} (hv : valT l = 0) {x y : List UInt8} (h : bl y x = false) : (rngT l x y).2 = 0 := by rw [rng_3 hv (by rw [h]; simp)]
/-! Leaves made of numbers are valid. -/
theorem keyT_up : ∀ n, n < 60 → bl (keyT n) (keyT (n + 1)) = true := by decide +kernel
theorem keyT_lt {m : Nat} : ∀ d, m + 1 + d ≤ 60 → bl (keyT m) (keyT (m + 1 + d)) = true
  | 0, h => keyT_up m (by omega)
  | d + 1, h => bl_trans (keyT_lt d (by omega)) (keyT_up _ (by omega))
theorem lvsR_key (l : List Int) : ∀ n, n ≤ 11 → ∀ i, i < n → ∃ m, (gt (lvsR l n).1 i).1 = keyT m ∧ m < (lvsR l n).2 ∧ (∀ j, i < j → j < n → ∃ m', (gt (lvsR l n).1 j).1 = keyT m' ∧ m < m' ∧ m' < (lvsR l n).2)
  | 0, _, i, h => by omega
  | n + 1, hn, i, h => by
    have hl := lvsR_len l n
    have g : ∀ j, j < n → gt (lvsR l (n + 1)).1 j = gt (lvsR l n).1 j := fun j hj => by simp only [lvsR]; exact gt_left _ _ _ (by omega)
    have gn : (gt (lvsR l (n + 1)).1 n).1 = keyT ((lvsR l n).2 + atI l (2 * n) 3) := by simp only [lvsR]; rw [gt_mid _ _ _ _ hl]
    have e2 : (lvsR l (n + 1)).2 = (lvsR l n).2 + atI l (2 * n) 3 + 1 := rfl
    by_cases e : i < n
    · obtain ⟨m, h1, h2, h3⟩ := lvsR_key l n (by omega) i e
      refine ⟨m, by rw [g i e]; exact h1, by omega, fun j hj hj2 => ?_⟩
      by_cases ej : j < n
      · obtain ⟨m', q1, q2, q3⟩ := h3 j hj ej
        exact ⟨m', by rw [g j ej]; exact q1, q2, by omega⟩
      · obtain rfl : j = n := by omega
        exact ⟨_, gn, by omega, by omega⟩
    · obtain rfl : i = n := by omega
      exact ⟨_, gn, by omega, fun j hj hj2 => by omega⟩
theorem incT_of {l : List Leaf} (hs : Srt l) : ∀ n, n ≤ l.length → incT l n = true
  | 0, _ => rfl
  | i + 1, h => by
    simp only [incT, Bool.and_eq_true, Bool.or_eq_true, decide_eq_true_eq]
    refine ⟨incT_of hs i (by omega), ?_⟩
    by_cases e : i = 0
    · exact .inl e
    · exact .inr (hs _ _ (by omega) (by omega))
theorem lvs_val (l : List Int) : valT (lvsT l) = 0 := by
  have hb := lvs_lb l
  have hn := lvsN_le l
  have hs : Srt (lvsT l) := fun i j hij hj => by
    unfold lvsT at hj ⊢
    rw [lvsR_len] at hj
    obtain ⟨m, h1, _, h3⟩ := lvsR_key l (lvsN l) hn i (by omega)
    obtain ⟨m', q1, q2, q3⟩ := h3 j hij hj
    have := lvsR_at l (lvsN l)
    rw [h1, q1]
    obtain ⟨d, rfl⟩ : ∃ d, m' = m + 1 + d := ⟨m' - m - 1, by omega⟩
    exact keyT_lt d (by omega)
  refine valT_0 ?_ (incT_of hs _ (Nat.le_refl _))
  rintro (h | h)
  · omega
  · rw [List.any_eq_true] at h
    obtain ⟨x, hx, h⟩ := h
    obtain ⟨i, hi, rfl⟩ := List.getElem_of_mem hx
    have := hb.2 i hi
    have e : gt (lvsT l) i = (lvsT l)[i] := by simp [gt, List.getD, List.getElem?_eq_getElem hi]
    rw [e] at this
    unfold bigE at h
    simp only [Bool.or_eq_true, decide_eq_true_eq] at h
    omega
theorem sub_LB {l : List Leaf} (h : l.length ≤ 1000000 ∧ ∀ i, i < l.length → (gt l i).1.length ≤ 1000000 ∧ (gt l i).2.length ≤ 1000000) (a n : Nat) : LB ((l.drop a).take n) := by
  have hl : ((l.drop a).take n).length ≤ l.length - a ∧ ((l.drop a).take n).length ≤ n := by rw [List.length_take, List.length_drop]; omega
  exact LB.ofSmall ⟨by omega, fun i hi => by rw [gt_sub l a n i (by omega) (by omega)]; exact h.2 _ (by omega)⟩
theorem LB_nil : LB [] := LB.ofSmall ⟨by simp, fun i hi => by simp at hi⟩
theorem prv_big {l : List Leaf} (h : l.length ≤ 1000000 ∧ ∀ i, i < l.length → (gt l i).1.length ≤ 1000000 ∧ (gt l i).2.length ≤ 1000000) (k : List UInt8) : (prvT l k).1.1 ≤ l.length ∧ (prvT l k).1.2.1 ≤ l.length ∧ LB (prvT l k).1.2.2.1 := by
  have hle := from_le l k
  unfold prvT
  split
  · simp only []
    split
    · exact ⟨hle, Nat.le_refl _, sub_LB h _ _⟩
    · exact ⟨by show fromT l k - 1 ≤ _; omega, Nat.le_refl _, sub_LB h _ _⟩
  · exact ⟨Nat.zero_le _, Nat.zero_le _, LB_nil⟩
theorem rng_big {l : List Leaf} (h : l.length ≤ 1000000 ∧ ∀ i, i < l.length → (gt l i).1.length ≤ 1000000 ∧ (gt l i).2.length ≤ 1000000) (x y : List UInt8) : (rngT l x y).1.1 ≤ l.length ∧ (rngT l x y).1.2.1 ≤ l.length ∧ LB (rngT l x y).1.2.2.1 := by
  have hle := from_le l x
  unfold rngT
  split
  · split
    · exact ⟨Nat.zero_le _, Nat.zero_le _, LB_nil⟩
    · exact ⟨by show fromT l x - 1 ≤ _; omega, Nat.le_refl _, sub_LB h _ _⟩
  · exact ⟨Nat.zero_le _, Nat.zero_le _, LB_nil⟩
end Go.Sx
namespace Go.Sx
open Go.RowKit Go.Proofs
set_option maxRecDepth 100000
set_option maxHeartbeats 8000000
theorem X_fc6 {p : Prop} (e : p := by intro KZ hZ; simp -implicitDefEqProofs (maxSteps := 2000000) (disch := first | omega | (simp only [go_sem, lA, lD, lT, hrl, lvX] <;> omega) | decide) only [go_sem, ↓reduceIte, Nat.reduceEqDiff, reduceCtorEq, Nat.reduceLT, Nat.reduceBEq, Nat.reduceAdd, eq_self, decide_true, decide_false, not_true_eq_false, not_false_eq_true, h19, e10, e12, e13, e20a, e20b, e22, e36, e18, e34, b1, b2, hy]; with_reducible exact hZ) : p := e
theorem F_fc6 {p : Prop} (e : p := by simp -implicitDefEqProofs (disch := first | omega | (simp only [go_sem, lA, lD, lT, hrl, lvX] <;> omega) | decide) only [go_sem, ↓reduceIte, Nat.reduceEqDiff, reduceCtorEq]; all_goals (rfl)) : p := e
theorem fc6 {gl : Nat → C} {M : Nat} {pu : Nat → List C → Option C}  (hcx : CxOK (cxP gl M pu))  (h10 : ∀ l : List Int, LI l → pu 10 [sl iC .no l] = some (sl eC (.own 2) (lvsT l))) (h12 : ∀ l : List Leaf, LB l → pu 12 [sl eC .no l] = some (.tup [.agg (cl bC (rooT l).1), .val (nI (rooT l).2)])) (h13 : ∀ l : List Leaf, l.length ≤ 1000000 → pu 13 [sl eC .no l] = some (sl eC (.own 2) l)) (h18 : ∀ l : List Leaf, l.length ≤ 1000000 → pu 18 [sl eC .no l] = some (sl eC (.own 2) l)) (h19 : pu 19 [] = some (.val (.bool true))) (h20 : ∀ (l : List Leaf) (n : Int), l.length ≤ 1000000 → (∀ i, i < l.length → (gt l i).1.length < 1000000) → (-9223372036854775808 ≤ n ∧ n ≤ 9223372036854775807) → pu 20 [sl eC .no l, .val (.int .i64 n)] = some (.val (str (kyT l n)))) (h22 : ∀ (l : List Leaf) (k : List UInt8), LB l → pu 22 [sl eC .no l, .val (str k)] = some (.tup [.agg [.val (nI (prvT l k).1.1), .val (nI (prvT l k).1.2.1), sl eC .no (prvT l k).1.2.2.1, sl dC .no (prvT l k).1.2.2.2], .val (nI (prvT l k).2)])) (h24 : ∀ (l : List Leaf) (x y : List UInt8), LB l → pu 24 [sl eC .no l, .val (str x), .val (str y)] = some (.tup [.agg [.val (nI (rngT l x y).1.1), .val (nI (rngT l x y).1.2.1), sl eC .no (rngT l x y).1.2.2.1, sl dC .no (rngT l x y).1.2.2.2], .val (nI (rngT l x y).2)])) (h29 : ∀ (r : List UInt8) (k : List UInt8) (f z : Int) (l : List Leaf) (S : List Dig), r.length = 16 → (-9223372036854775808 ≤ f ∧ f ≤ 9223372036854775807) → (-9223372036854775808 ≤ z ∧ z ≤ 9223372036854775807) → LB l → S.length ≤ 1000000 → pu 29 [.agg (cl bC r), .val (str k), .agg [.val (.int .i64 f), .val (.int .i64 z), sl eC .no l, sl dC .no S]] = some (.tup [.val (str (chkT r k f z l S).1), .val (.bool (chkT r k f z l S).2.1), .val (nI (chkT r k f z l S).2.2)])) (h32 : ∀ (r x y : List UInt8) (f z : Int) (l : List Leaf) (S : List Dig), r.length = 16 → (-9223372036854775808 ≤ f ∧ f ≤ 9223372036854775807) → (-9223372036854775808 ≤ z ∧ z ≤ 9223372036854775807) → LB l → S.length ≤ 1000000 → pu 32 [.agg (cl bC r), .val (str x), .val (str y), .agg [.val (.int .i64 f), .val (.int .i64 z), sl eC .no l, sl dC .no S]] = some (.tup [sl eC .no (crgT r x y f z l S).1, .val (nI (crgT r x y f z l S).2)])) (h34 : ∀ x y : List Leaf, x.length ≤ 1000000 → y.length ≤ 1000000 → pu 34 [sl eC .no x, sl eC .no y] = some (.val (.bool (decide (x = y))))) (h35 : ∀ (l : List Leaf) (k : List UInt8), l.length ≤ 1000000 → pu 35 [sl eC .no l, .val (str k)] = some (.val (.int .i64 (hasI l k)))) (h36 : ∀ (l : List Leaf) (x y : List UInt8), l.length ≤ 1000000 → pu 36 [sl eC .no l, .val (str x), .val (str y)] = some (sl eC (.own 2) (insT l x y l.length))) (l : List Int) (k m : Int) (hl : LI l) (hk : -9223372036854775808 ≤ k ∧ k ≤ 9223372036854775807) (hm : -9223372036854775808 ≤ m ∧ m ≤ 9223372036854775807) : FC Tryd.prog gl 6 [sl iC .no l, .val (.int .i64 k), .val (.int .i64 m)] [] (.val (.bool true)) [] := by
 replace hcx := hcx.reN (M := 139)
 refine FC.ofA (cx := cxP gl 139 pu) (rs := [.tmp 6]) rfl Tryd.func6 rfl rfl rfl (by simp only [List.length_cons, List.length_nil]; decide) (by simp only [go_sem]) ?_
 simp only [ini, go_sem]
 have b1 := True.intro
 have b2 := True.intro
 have hy := True.intro
 obtain ⟨X, hX⟩ : ∃ X, lvsT l = X := ⟨_, rfl⟩
 have lv := lvs_lb l
 have hv := lvs_val l
 rw [hX] at lv hv
 have hs := valT_srt hv
 have lvX := lv.1
 have sm : X.length ≤ 1000000 ∧ ∀ i, i < X.length → (gt X i).1.length ≤ 1000000 ∧ (gt X i).2.length ≤ 1000000 := ⟨by omega, fun i hi => by have := lv.2 i hi; omega⟩
 have lbX : LB X := LB.ofSmall sm
 have e10 : pu 10 [sl iC .no l] = some (sl eC (.own 2) X) := (h10 l hl).trans (by rw [hX])
 have e13 := h13 X (by omega)
 have e12 : pu 12 [sl eC .no X] = some (.tup [.agg (cl bC (rotL X)), .val (nI 0)]) := (h12 X lbX).trans (by rw [rooT_ok hv])
 have e20a := h20 X k (by omega) (fun j hj => by have := sm.2 j hj; have := lv.2 j hj; omega) hk
 have e20b := h20 X m (by omega) (fun j hj => by have := sm.2 j hj; have := lv.2 j hj; omega) hm
 obtain ⟨A, hA⟩ : ∃ A, kyT X k = A := ⟨_, rfl⟩
 obtain ⟨B, hB⟩ : ∃ B, kyT X m = B := ⟨_, rfl⟩
 rw [hA] at e20a
 rw [hB] at e20b
 obtain ⟨P, hP⟩ : ∃ P, (prvT X A).1 = P := ⟨_, rfl⟩
 have pb := prv_big sm A
 have pd := prv_bd X A
 have p24 := prv_24 (by omega) hv A
 have cp := chk_prv hv A
 rw [hP] at pb pd p24 cp
 have e22 : pu 22 [sl eC .no X, .val (str A)] = some (.tup [.agg [.val (nI P.1), .val (nI P.2.1), sl eC .no P.2.2.1, sl dC .no P.2.2.2], .val (nI 0)]) := (h22 X A lbX).trans (by rw [prv_ok hv, hP])
 have e29 : pu 29 [.agg (cl bC (rotL X)), .val (str A), .agg [.val (nI P.1), .val (nI P.2.1), sl eC .no P.2.2.1, sl dC .no P.2.2.2]] = some (.tup [.val (str (if isT X A then (gt X (fromT X A)).2 else [])), .val (.bool (decide (isT X A))), .val (nI 0)]) := (h29 (rotL X) A ((P.1 : Nat) : Int) ((P.2.1 : Nat) : Int) P.2.2.1 P.2.2.2 (rotL_len X) (by omega) (by omega) pb.2.2 (by omega)).trans (by rw [cp])
 have e35 := h35 X A (by omega)
 rw [hasI_is hs] at e35
 obtain ⟨Q, hQ⟩ : ∃ Q, (rngT X A B).1 = Q := ⟨_, rfl⟩
 have qb := rng_big sm A B
 have qd := rng_bd X A B
 rw [hQ] at qb qd
 have e24 := h24 X A B lbX
 rw [hQ] at e24
 have e32 := h32 (rotL X) A B ((Q.1 : Nat) : Int) ((Q.2.1 : Nat) : Int) Q.2.2.1 Q.2.2.2 (rotL_len X) (by omega) (by omega) qb.2.2 (by omega)
 have il := ins_len X A B X.length
 have e36 := h36 X A B (by omega)
 obtain ⟨I, hI⟩ : ∃ I, insT X A B X.length = I := ⟨_, rfl⟩
 rw [hI] at e36 il
 have e18 := h18 I (by omega)
 have e34 : pu 34 [sl eC .no I, sl eC .no I] = some (.val (.bool true)) := (h34 I I (by omega) (by omega)).trans (by simp)
 have hrl := rotL_len X
 have h24 : (24 < P.2.2.2.length) = False := eq_false (by omega)
 refine Tr.w hcx [] _ [] rfl rfl rfl ?_ X_fc6
 refine Tr.w hcx [1000023] _ [] rfl rfl rfl ?_ X_fc6
 refine Tr.k [1, 2, 7] ?_
 refine Tr.w hcx [1000029] _ [none] rfl rfl rfl ?_ X_fc6
 refine Tr.k [1, 2, 7, 8, 9] ?_
 refine Tr.w hcx [1000032] _ [] rfl rfl rfl ?_ X_fc6
 refine Tr.k [2, 7, 8, 9, 10] ?_
 refine Tr.w hcx [1000035] _ [] rfl rfl rfl ?_ X_fc6
 refine Tr.k [7, 8, 9, 10, 11] ?_
 refine Tr.w hcx [1000042] _ [none] rfl rfl rfl ?_ X_fc6
 refine Tr.k [7, 8, 9, 10, 11, 12, 13] ?_
 by_cases b1 : isT X A
 ·
  obtain ⟨i, hi⟩ : ∃ i, fromT X A = i := ⟨_, rfl⟩
  have hiX : i < X.length := by rw [← hi]; exact b1.1
  rw [if_pos b1, decide_eq_true b1, hi] at e29
  rw [if_pos b1, hi] at e35
  have hmx : max i 0 = i := by omega
  have x1b := rdc_e1 X i hiX
  have hy := @e29
  refine Tr.w hcx [1000048, 1000049, 1000050] _ [] rfl rfl rfl ?_ X_fc6
  refine Tr.k [7, 8, 9, 10, 11, 12, 13, 14, 15, 16] ?_
  refine Tr.seqK fun K1 hK1 => ?_
  have hy := @h24
  refine Tr.w hcx [] [some 51, some 52, some 53, some 54, some 55, some 56, some 57, some 58, some 59, some 60, some 61, some 62, some 63, some 64, some 65, some 66] [] rfl rfl rfl ?_ X_fc6
  refine Tr.k [7, 8, 10, 11, 14, 15, 66] ?_
  refine Tr.cF rfl ?_
  refine Tr.skip ?_
  refine hK1 _ ?_
  refine Tr.k [7, 8, 10, 11, 14, 15] ?_
  have hy := @e35
  refine Tr.w hcx [1000069] _ [] rfl rfl rfl ?_ X_fc6
  refine Tr.k [7, 8, 10, 11, 14, 15, 17] ?_
  refine Tr.seqK fun K2 hK2 => ?_
  have hy := True.intro
  refine Tr.w hcx [] _ [] rfl rfl rfl ?_ X_fc6
  refine Tr.k [7, 8, 10, 11, 14, 15, 17, 73] ?_
  refine Tr.cF rfl ?_
  refine Tr.skip ?_
  refine hK2 _ ?_
  refine Tr.k [7, 8, 10, 11, 14, 15, 17] ?_
  refine Tr.seqK fun K3 hK3 => ?_
  have hy := And.intro @hmx (And.intro @x1b @hiX)
  refine Tr.w hcx [] [some 74, some 75, some 76, some 77, some 78, some 79, some 80, some 81, some 82, some 83, some 84, some 85, some 86, some 87, some 88, some 89, some 90, some 91, some 92] [] rfl rfl rfl ?_ X_fc6
  refine Tr.k [7, 8, 10, 11, 92] ?_
  refine Tr.cF rfl ?_
  refine Tr.skip ?_
  refine hK3 _ ?_
  refine Tr.k [7, 8, 10, 11] ?_
  by_cases b2 : bl B A = true
  ·
   have r2 := rng_2 hv b2
   rw [r2] at e24
   rw [← hQ, r2] at e24 e32
   rw [crg_1 b2] at e32
   replace e32 : pu 32 [.agg (cl bC (rotL X)), .val (str A), .val (str B), .agg [.val (nI 0), .val (nI 0), sl eC .no [], sl dC .no []]] = some (.tup [sl eC .no [], .val (nI 5)]) := e32
   replace e24 : pu 24 [sl eC .no X, .val (str A), .val (str B)] = some (.tup [.agg [.val (nI 0), .val (nI 0), sl eC .no [], sl dC .no []], .val (nI 5)]) := e24
   have hy := @e24
   refine Tr.w hcx [1000100] _ [none] rfl rfl rfl ?_ X_fc6
   refine Tr.k [7, 8, 10, 11, 18, 19] ?_
   have hy := @e32
   refine Tr.w hcx [1000107, 1000108] _ [] rfl rfl rfl ?_ X_fc6
   refine Tr.k [7, 10, 11, 19, 20, 21] ?_
   refine Tr.seqK fun K4 hK4 => ?_
   have hy := @b2
   refine Tr.w hcx [] _ [] rfl rfl rfl ?_ X_fc6
   refine Tr.cT rfl ?_
   have hy := True.intro
   refine Tr.w hcx [1000120] [some 112, some 113, some 114, some 115, some 116, some 117, some 118, some 119, some 120, some 6] [] rfl rfl rfl ?_ X_fc6
   refine Tr.k [6] ?_
   exact Tr.ret F_fc6
  have b2n := Bool.eq_false_iff.2 b2
  have cr := crg_rng hv b2n
  rw [rng_ok hv b2n] at e24
  rw [hQ, hI] at cr
  rw [cr] at e32
  replace e32 : pu 32 [.agg (cl bC (rotL X)), .val (str A), .val (str B), .agg [.val (nI Q.1), .val (nI Q.2.1), sl eC .no Q.2.2.1, sl dC .no Q.2.2.2]] = some (.tup [sl eC .no I, .val (nI 0)]) := e32
  have hy := @e24
  refine Tr.w hcx [1000100] _ [none] rfl rfl rfl ?_ X_fc6
  refine Tr.k [7, 8, 10, 11, 18, 19] ?_
  have hy := @e32
  refine Tr.w hcx [1000107, 1000108] _ [] rfl rfl rfl ?_ X_fc6
  refine Tr.k [7, 10, 11, 19, 20, 21] ?_
  refine Tr.seqK fun K5 hK5 => ?_
  have hy := @b2
  refine Tr.w hcx [] _ [] rfl rfl rfl ?_ X_fc6
  refine Tr.cF rfl ?_
  refine Tr.skip ?_
  refine hK5 _ ?_
  refine Tr.k [7, 10, 11, 19, 20, 21] ?_
  have hy := True.intro
  refine Tr.w hcx [1000138] [some 121, some 122, some 123, some 124, some 125, some 126, some 127, some 128, some 129, some 130, some 131, some 132, some 133, some 134, some 135, some 136, some 137, some 138, some 6] [] rfl rfl rfl ?_ X_fc6
  refine Tr.k [6] ?_
  exact Tr.ret F_fc6
 rw [if_neg b1, decide_eq_false b1] at e29
 rw [if_neg b1] at e35
 have hmx := True.intro
 have x1b := True.intro
 have hiX := True.intro
 have hy := @e29
 refine Tr.w hcx [1000048, 1000049, 1000050] _ [] rfl rfl rfl ?_ X_fc6
 refine Tr.k [7, 8, 9, 10, 11, 12, 13, 14, 15, 16] ?_
 refine Tr.seqK fun K6 hK6 => ?_
 have hy := @h24
 refine Tr.w hcx [] [some 51, some 52, some 53, some 54, some 55, some 56, some 57, some 58, some 59, some 60, some 61, some 62, some 63, some 64, some 65, some 66] [] rfl rfl rfl ?_ X_fc6
 refine Tr.k [7, 8, 10, 11, 14, 15, 66] ?_
 refine Tr.cF rfl ?_
 refine Tr.skip ?_
 refine hK6 _ ?_
 refine Tr.k [7, 8, 10, 11, 14, 15] ?_
 have hy := @e35
 refine Tr.w hcx [1000069] _ [] rfl rfl rfl ?_ X_fc6
 refine Tr.k [7, 8, 10, 11, 14, 15, 17] ?_
 refine Tr.seqK fun K7 hK7 => ?_
 have hy := True.intro
 refine Tr.w hcx [] _ [] rfl rfl rfl ?_ X_fc6
 refine Tr.k [7, 8, 10, 11, 14, 15, 17, 73] ?_
 refine Tr.cF rfl ?_
 refine Tr.skip ?_
 refine hK7 _ ?_
 refine Tr.k [7, 8, 10, 11, 14, 15, 17] ?_
 refine Tr.seqK fun K8 hK8 => ?_
 have hy := And.intro @hmx (And.intro @x1b @hiX)
 refine Tr.w hcx [] [some 74, some 75, some 76, some 77, some 78, some 79, some 80, some 81, some 82, some 83, some 84, some 85, some 86, some 87, some 88, some 89, some 90, some 91, some 92] [] rfl rfl rfl ?_ X_fc6
 refine Tr.k [7, 8, 10, 11, 92] ?_
 refine Tr.cF rfl ?_
 refine Tr.skip ?_
 refine hK8 _ ?_
 refine Tr.k [7, 8, 10, 11] ?_
 by_cases b2 : bl B A = true
 ·
  have r2 := rng_2 hv b2
  rw [r2] at e24
  rw [← hQ, r2] at e24 e32
  rw [crg_1 b2] at e32
  replace e32 : pu 32 [.agg (cl bC (rotL X)), .val (str A), .val (str B), .agg [.val (nI 0), .val (nI 0), sl eC .no [], sl dC .no []]] = some (.tup [sl eC .no [], .val (nI 5)]) := e32
  replace e24 : pu 24 [sl eC .no X, .val (str A), .val (str B)] = some (.tup [.agg [.val (nI 0), .val (nI 0), sl eC .no [], sl dC .no []], .val (nI 5)]) := e24
  have hy := @e24
  refine Tr.w hcx [1000100] _ [none] rfl rfl rfl ?_ X_fc6
  refine Tr.k [7, 8, 10, 11, 18, 19] ?_
  have hy := @e32
  refine Tr.w hcx [1000107, 1000108] _ [] rfl rfl rfl ?_ X_fc6
  refine Tr.k [7, 10, 11, 19, 20, 21] ?_
  refine Tr.seqK fun K9 hK9 => ?_
  have hy := @b2
  refine Tr.w hcx [] _ [] rfl rfl rfl ?_ X_fc6
  refine Tr.cT rfl ?_
  have hy := True.intro
  refine Tr.w hcx [1000120] [some 112, some 113, some 114, some 115, some 116, some 117, some 118, some 119, some 120, some 6] [] rfl rfl rfl ?_ X_fc6
  refine Tr.k [6] ?_
  exact Tr.ret F_fc6
 have b2n := Bool.eq_false_iff.2 b2
 have cr := crg_rng hv b2n
 rw [rng_ok hv b2n] at e24
 rw [hQ, hI] at cr
 rw [cr] at e32
 replace e32 : pu 32 [.agg (cl bC (rotL X)), .val (str A), .val (str B), .agg [.val (nI Q.1), .val (nI Q.2.1), sl eC .no Q.2.2.1, sl dC .no Q.2.2.2]] = some (.tup [sl eC .no I, .val (nI 0)]) := e32
 have hy := @e24
 refine Tr.w hcx [1000100] _ [none] rfl rfl rfl ?_ X_fc6
 refine Tr.k [7, 8, 10, 11, 18, 19] ?_
 have hy := @e32
 refine Tr.w hcx [1000107, 1000108] _ [] rfl rfl rfl ?_ X_fc6
 refine Tr.k [7, 10, 11, 19, 20, 21] ?_
 refine Tr.seqK fun K10 hK10 => ?_
 have hy := @b2
 refine Tr.w hcx [] _ [] rfl rfl rfl ?_ X_fc6
 refine Tr.cF rfl ?_
 refine Tr.skip ?_
 refine hK10 _ ?_
 refine Tr.k [7, 10, 11, 19, 20, 21] ?_
 have hy := True.intro
 refine Tr.w hcx [1000138] [some 121, some 122, some 123, some 124, some 125, some 126, some 127, some 128, some 129, some 130, some 131, some 132, some 133, some 134, some 135, some 136, some 137, some 138, some 6] [] rfl rfl rfl ?_ X_fc6
 refine Tr.k [6] ?_
 exact Tr.ret F_fc6
end Go.Sx
