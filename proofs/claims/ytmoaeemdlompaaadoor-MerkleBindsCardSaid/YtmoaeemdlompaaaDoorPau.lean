/-
   And what follows.
-/
import Derived.Test.YtmoaeemdlompaaaDoorPat
import Derived.Test.YtmoaeemdlompaaaDoorPar
import Derived.Test.YtmoaeemdlompaaaDoorPas
import Derived.Test.YtmoaeemdlompaaaDoorPao
set_option linter.unusedSimpArgs false
set_option linter.unusedVariables false
namespace Go.Sx
open Go.RowKit Go.Proofs
set_option maxRecDepth 100000
theorem atG_inj {f : Nat} : ∀ {d d' : Nat} {p p' : List C}, atG f p d = atG f p' d' → d = d'
  | 0, 0, _, _, _ => rfl
  | 0, d' + 1, _, _, h => by simp [atG] at h
  | d + 1, 0, _, _, h => by simp [atG] at h
  | d + 1, d' + 1, p, p', h => by
    simp only [atG, C.kp.injEq, List.cons.injEq, C.fn.injEq, and_true, true_and] at h
    have := (List.append_inj' h rfl).2
    simp only [List.cons.injEq, and_true] at this
    rw [atG_inj this]
theorem rowR_st (l : List Leaf) (f : Nat) (S : List Dig) : ∀ (d e a b : Nat) (st : TS), b - a ≤ 2 ^ d → b - a ≤ 2 ^ e → rowR l f S d a b st = rowR l f S e a b st
  | 0, e, a, b, st, h1, h2 => by
    by_cases h : b ≤ f ∨ f + l.length ≤ a
    · rw [rowR_s h, rowR_s h]
    · rw [rowR_l h h1, rowR_l h h1]
  | d + 1, 0, a, b, st, h1, h2 => by
    by_cases h : b ≤ f ∨ f + l.length ≤ a
    · rw [rowR_s h, rowR_s h]
    · rw [rowR_l h h2, rowR_l h h2]
  | d + 1, e + 1, a, b, st, h1, h2 => by
    by_cases h : b ≤ f ∨ f + l.length ≤ a
    · rw [rowR_s h, rowR_s h]
    · by_cases h' : b - a ≤ 1
      · rw [rowR_l h h', rowR_l h h']
      · have hh := half_lt (n := b - a) (by omega)
        have g1 := half_le (by omega) h1
        have g2 := half_le (by omega) h2
        rw [rowR_n h h', rowR_n h h', rowR_st l f S d e a _ st (by omega) (by omega), rowR_st l f S d e _ b _ (by omega) (by omega)]
section
variable {gl : Nat → C} {M : Nat} {pu : Nat → List C → Option C}
abbrev D79 (d : Nat) := {q : List Leaf × Nat × Nat // OkL q.1 ∧ q.2.1 < q.2.2 ∧ q.2.2 ≤ q.1.length ∧ q.2.2 - q.2.1 ≤ 2 ^ d}
def e79 (d : Nat) (q : D79 d) : List C := [.val (nI q.1.2.1), .val (nI q.1.2.2), .kp [sl eC .no q.1.1], atG 79 [.kp [sl eC .no q.1.1]] d]
def o79 (d : Nat) (q : D79 d) : C := .agg (cl bC (rowD q.1.1 d q.1.2.1 q.1.2.2))
theorem n79 (l : List Leaf) (a b d : Nat) : noRefs 0 [.val (nI a), .val (nI b), .kp [sl eC .no l], atG 79 [.kp [sl eC .no l]] d] = true := by
  simp only [noRefs_cons, noRefs_nil, noRef_val, noRef_kp, noRef_sl, Bool.and_self, Bool.true_and, Bool.and_true]
  exact atG_nr 0 79 _ (by simp only [noRefs_cons, noRefs_nil, noRef_kp, noRef_sl, Bool.and_self]) d
theorem i79 (d : Nat) (x y : D79 d) (h : e79 d x = e79 d y) : o79 d x = o79 d y := by
  simp only [e79, List.cons.injEq, C.val.injEq, C.kp.injEq, nI_inj, sl_inj, and_true] at h
  simp only [o79, h]
theorem fc79 (hcx : CxOK (cxP gl M pu)) (h80 : ∀ x : Leaf, x.1.length ≤ 65536 ∧ x.2.length ≤ 65536 → pu 80 [.agg (eC x)] = some (.agg (cl bC (lefT x))))
    (h81 : ∀ x y : Nat, x ≤ y ∧ y ≤ 4611686018427387000 → pu 81 [.val (nI x), .val (nI y)] = some (.val (nI (x + halfT (y - x)))))
    (h82 : ∀ a b : List UInt8, a.length = 16 → b.length = 16 → pu 82 [.agg (cl bC a), .agg (cl bC b)] = some (.agg (cl bC (nodT a b)))) :
    ∀ (d : Nat) (l : List Leaf) (a b : Nat), OkL l → a < b ∧ b ≤ l.length ∧ b - a ≤ 2 ^ d → FC Tryd.prog gl 79 [.val (nI a), .val (nI b), .kp [sl eC .no l], atG 79 [.kp [sl eC .no l]] d] [] (.agg (cl bC (rowD l d a b))) []
  | 0, l, a, b, hl, hab => fc79z hcx h80 l 0 a b hl ⟨hab.1, hab.2.1, hab.2.2⟩
  | d + 1, l, a, b, hl, hab => by
    by_cases h : b - a ≤ 1
    · exact fc79z hcx h80 l (d + 1) a b hl ⟨hab.1, hab.2.1, h⟩
    · have hcx' : CxOK (cxP gl M (Sx.ext pu 79 (tabOf (e79 d) (o79 d)))) := CxOK.ext2 (N := M) hcx (fun q => n79 _ _ _ _) fun q => fc79 hcx h80 h81 h82 d q.1.1 q.1.2.1 q.1.2.2 q.2.1 q.2.2
      exact fc79s hcx' (fun x y h => (ext_miss (by decide) _).trans (h81 x y h)) (fun x y h h' => (ext_miss (by decide) _).trans (h82 x y h h')) l d a b hl ⟨hab.1, hab.2.1, hab.2.2, by omega⟩
        (fun a b hab => (ext_hit _).trans (tabOf_enc (i79 d) ⟨(l, a, b), hl, hab⟩))
theorem toR (hcx : CxOK (cxP gl M pu)) (N : Nat) : CxOK (cxR gl N pu fun _ _ _ => none) := hcx.reN
theorem treS (T : List (List UInt8)) (S : List Dig) (u : Nat) (sh : Bool) : ∀ o ∈ ([some [sl sC (.own 1) T, sl dC .no S, .val (nI u), .val (.bool sh)]] : Hp), ((liveC o).isSome || (mpL o).isSome) = true := fun o h => by
  rw [List.mem_singleton.1 h]; rfl
abbrev A86 := {q : List (List UInt8) × List Dig × Nat × Bool × Int × List (List UInt8) // q.1.length ≤ 1000000 ∧ (inp q.2.2.2.2.1 q.2.2.2.2.2).length < 1099511627776}
def s86 (hcx : CxOK (cxP gl M pu)) (h65 : ∀ (tag : Int) (parts : List (List UInt8)), (inp tag parts).length < 1099511627776 → pu 65 [.val (.int .i64 tag), sl sC .no parts] = some (sl bC (.own 1) (inp tag parts)))
    (h64 : ∀ b : List UInt8, b.length < 35184372088832 → pu 64 [sl bC .no b] = some (.agg (cl bC ((sha b).take 16)))) : Small Tryd.prog gl 86 A86 where
  k := 1
  j := 0
  args q := [.bp 0 0, .val (.int .i64 q.1.2.2.2.2.1), sl sC .no q.1.2.2.2.2.2]
  X q := [some [sl sC (.own 1) q.1.1, sl dC .no q.1.2.1, .val (nI q.1.2.2.1), .val (.bool q.1.2.2.2.1)]]
  r q := .agg (cl bC (ofT q.1.2.2.2.2.1 q.1.2.2.2.2.2))
  Y q := [some [sl sC (.own 1) (q.1.1 ++ [inp q.1.2.2.2.2.1 q.1.2.2.2.2.2]), sl dC .no q.1.2.1, .val (nI q.1.2.2.1), .val (.bool q.1.2.2.2.1)]]
  k0 := by decide
  hk _ := rfl
  hy _ := rfl
  al q := treS _ _ _ _
  nr q := by simp only [noRefs_cons, noRefs_nil, noRef_val, noRef_sl, Bool.and_true]; rfl
  nx q := tre_nr _ _ _ _
  at0 q := ⟨0, rfl⟩
  inj := fun x y h1 h2 => by
    simp only [List.cons.injEq, Option.some.injEq, C.val.injEq, Value.int.injEq, Value.bool.injEq, nI_inj, sl_inj, and_true, true_and] at h1 h2
    simp only [h1, h2, and_self]
  fc q := fc86 (toR hcx 0) h65 h64 q.1.1 q.1.2.1 q.1.2.2.1 q.1.2.2.2.1 q.1.2.2.2.2.1 q.1.2.2.2.2.2 q.2.1 q.2.2
def K85 (d : Nat) (l : List Leaf) (f : Nat) (S : List Dig) (T : List (List UInt8)) (u a b : Nat) : Prop := LZ l ∧ f ≤ 5000 ∧ S.length ≤ 1000000 ∧ u ≤ S.length ∧ T.length ≤ 900000 - 2 ^ (d + 1) ∧ d ≤ 12 ∧ a < b ∧ b ≤ 5000 ∧ b - a ≤ 2 ^ d
structure A85 where
  (l : List Leaf) (f : Nat) (S : List Dig) (T : List (List UInt8)) (u : Nat) (sh : Bool) (d a b : Nat)
  ok : K85 d l f S T u a b
def s85 (W : A85 → Prop) (fc : ∀ q : A85, W q → FC Tryd.prog gl 85 [.bp 0 0, sl eC .no q.l, .val (nI q.f), .val (nI q.a), .val (nI q.b)] [some [sl sC (.own 1) (q.T), sl dC .no q.S, .val (nI (q.u)), .val (.bool (q.sh))]] (.agg (cl bC (rowR q.l q.f q.S q.d q.a q.b (q.T, q.u, q.sh)).1)) [some [sl sC (.own 1) ((rowR q.l q.f q.S q.d q.a q.b (q.T, q.u, q.sh)).2.1), sl dC .no q.S, .val (nI ((rowR q.l q.f q.S q.d q.a q.b (q.T, q.u, q.sh)).2.2.1)), .val (.bool ((rowR q.l q.f q.S q.d q.a q.b (q.T, q.u, q.sh)).2.2.2))]]) : Small Tryd.prog gl 85 {q : A85 // W q} where
  k := 1
  j := 0
  args q := [.bp 0 0, sl eC .no q.1.l, .val (nI q.1.f), .val (nI q.1.a), .val (nI q.1.b)]
  X q := [some [sl sC (.own 1) (q.1.T), sl dC .no q.1.S, .val (nI (q.1.u)), .val (.bool (q.1.sh))]]
  r q := .agg (cl bC (rowR q.1.l q.1.f q.1.S q.1.d q.1.a q.1.b (q.1.T, q.1.u, q.1.sh)).1)
  Y q := [some [sl sC (.own 1) ((rowR q.1.l q.1.f q.1.S q.1.d q.1.a q.1.b (q.1.T, q.1.u, q.1.sh)).2.1), sl dC .no q.1.S, .val (nI ((rowR q.1.l q.1.f q.1.S q.1.d q.1.a q.1.b (q.1.T, q.1.u, q.1.sh)).2.2.1)), .val (.bool ((rowR q.1.l q.1.f q.1.S q.1.d q.1.a q.1.b (q.1.T, q.1.u, q.1.sh)).2.2.2))]]
  k0 := by decide
  hk _ := rfl
  hy _ := rfl
  al q := treS _ _ _ _
  nr q := by simp only [noRefs_cons, noRefs_nil, noRef_val, noRef_sl, Bool.and_true]; rfl
  nx q := tre_nr _ _ _ _
  at0 q := ⟨0, rfl⟩
  inj := fun x y h1 h2 => by
    simp only [List.cons.injEq, Option.some.injEq, C.val.injEq, Value.int.injEq, Value.bool.injEq, nI_inj, sl_inj, and_true, true_and] at h1 h2
    have e := rowR_st y.1.l y.1.f y.1.S x.1.d y.1.d y.1.a y.1.b (y.1.T, y.1.u, y.1.sh) (by have := x.1.ok.2.2.2.2.2.2.2.2; rw [h1.2.2.1, h1.2.2.2] at this; exact this) y.1.ok.2.2.2.2.2.2.2.2
    simp only [h1, h2, e, and_self]
  fc q := fc q.1 q.2
abbrev F85 (gl : Nat → C) (q : A85) : Prop := FC Tryd.prog gl 85 [.bp 0 0, sl eC .no q.l, .val (nI q.f), .val (nI q.a), .val (nI q.b)] [some [sl sC (.own 1) (q.T), sl dC .no q.S, .val (nI (q.u)), .val (.bool (q.sh))]] (.agg (cl bC (rowR q.l q.f q.S q.d q.a q.b (q.T, q.u, q.sh)).1)) [some [sl sC (.own 1) ((rowR q.l q.f q.S q.d q.a q.b (q.T, q.u, q.sh)).2.1), sl dC .no q.S, .val (nI ((rowR q.l q.f q.S q.d q.a q.b (q.T, q.u, q.sh)).2.2.1)), .val (.bool ((rowR q.l q.f q.S q.d q.a q.b (q.T, q.u, q.sh)).2.2.2))]]
theorem look86 (hcx : CxOK (cxP gl M pu)) (h65 : ∀ (tag : Int) (parts : List (List UInt8)), (inp tag parts).length < 1099511627776 → pu 65 [.val (.int .i64 tag), sl sC .no parts] = some (sl bC (.own 1) (inp tag parts))) (h64 : ∀ b : List UInt8, b.length < 35184372088832 → pu 64 [sl bC .no b] = some (.agg (cl bC ((sha b).take 16)))) (hp : Nat → List C → Hp → Option (C × Hp)) (pre suf : Hp) (T : List (List UInt8)) (S : List Dig) (u : Nat) (sh : Bool) (tag : Int) (parts : List (List UInt8)) (h0 : OkH pre) (h1 : OkH suf) (h2 : T.length ≤ 1000000) (h3 : (inp tag parts).length < 1099511627776) :
    (s86 hcx h65 h64).tab hp 86 [.bp pre.length 0, .val (.int .i64 tag), sl sC .no parts] (pre ++ ([some [sl sC (.own 1) (T), sl dC .no S, .val (nI (u)), .val (.bool (sh))]] ++ suf)) = some (.agg (cl bC (ofT tag parts)), pre ++ ([some [sl sC (.own 1) (T ++ [inp tag parts]), sl dC .no S, .val (nI (u)), .val (.bool (sh))]] ++ suf)) := by
  have h := Small.look (s86 hcx h65 h64) hp ⟨(T, S, u, sh, tag, parts), h2, h3⟩ pre suf h0 h1
  simpa only [s86, List.length_nil, Nat.zero_add, Nat.add_zero, bkCs, bkC, bks_cl, bk_sl, shH_cons, shH_nil, Option.map_some, List.map_cons, List.map_nil, List.nil_append, List.cons_append] using h
theorem look85 (W : A85 → Prop) (fc : ∀ q : A85, W q → F85 gl q) (hp : Nat → List C → Hp → Option (C × Hp)) (q : A85) (hq : W q) (pre suf : Hp) (h0 : OkH pre) (h1 : OkH suf) :
    (s85 W fc).tab hp 85 [.bp pre.length 0, sl eC .no q.l, .val (nI q.f), .val (nI q.a), .val (nI q.b)] (pre ++ ([some [sl sC (.own 1) (q.T), sl dC .no q.S, .val (nI (q.u)), .val (.bool (q.sh))]] ++ suf)) = some (.agg (cl bC (rowR q.l q.f q.S q.d q.a q.b (q.T, q.u, q.sh)).1), pre ++ ([some [sl sC (.own 1) ((rowR q.l q.f q.S q.d q.a q.b (q.T, q.u, q.sh)).2.1), sl dC .no q.S, .val (nI ((rowR q.l q.f q.S q.d q.a q.b (q.T, q.u, q.sh)).2.2.1)), .val (.bool ((rowR q.l q.f q.S q.d q.a q.b (q.T, q.u, q.sh)).2.2.2))]] ++ suf)) := by
  have h := Small.look (s85 W fc) hp ⟨q, hq⟩ pre suf h0 h1
  simpa only [s85, List.length_nil, Nat.zero_add, Nat.add_zero, bkCs, bkC, bks_cl, bk_sl, shH_cons, shH_nil, Option.map_some, List.map_cons, List.map_nil, List.nil_append, List.cons_append] using h
theorem fc85 (hcx : CxOK (cxP gl M pu)) (hnr : ∀ (g : Nat) (xs : List C), noRefs 0 xs = false → pu g xs = none) (h65 : ∀ (tag : Int) (parts : List (List UInt8)), (inp tag parts).length < 1099511627776 → pu 65 [.val (.int .i64 tag), sl sC .no parts] = some (sl bC (.own 1) (inp tag parts))) (h64 : ∀ b : List UInt8, b.length < 35184372088832 → pu 64 [sl bC .no b] = some (.agg (cl bC ((sha b).take 16)))) (h84 : ∀ h : List UInt8, h.length = 16 → pu 84 [.agg (cl bC h)] = some (.val (str h))) (h106 : ∀ n : Nat, n ≤ 4611686018427387000 → pu 106 [.val (nI n)] = some (.val (nI (halfT n)))) : ∀ (d : Nat) (q : A85), q.d = d → F85 gl q
  | 0, ⟨l, f, S, T, u, sh, d, a, b, hk⟩, hd => by
    obtain rfl : d = 0 := hd
    obtain ⟨k1, k2, k3, k4, k5, k6, k7, k8, k9⟩ := hk
    exact fc85z (CxOK.sm (M := M) (toR hcx M) ⟨_, Tryd.func86, rfl, rfl⟩ (s86 hcx h65 h64)) l f S T u sh 0 a b k1 k2 k3 k4 k5 k6 ⟨k7, k8, k9⟩ (.inr (.inr k9)) hnr (fun xs h => Small.never _ _ xs h)
      (fun suf T S u sh tag parts h1 h2 h3 => look86 hcx h65 h64 _ [] suf T S u sh tag parts OkH.nil h1 h2 h3)
  | d + 1, ⟨l, f, S, T, u, sh, d', a, b, hk⟩, hd => by
    obtain rfl : d' = d + 1 := hd
    obtain ⟨k1, k2, k3, k4, k5, k6, k7, k8, k9⟩ := hk
    have ok := CxOK.sm (M := M) (toR hcx M) ⟨_, Tryd.func86, rfl, rfl⟩ (s86 hcx h65 h64)
    by_cases hz : b ≤ f ∨ f + l.length ≤ a ∨ b - a ≤ 1
    · exact fc85z ok l f S T u sh (d + 1) a b k1 k2 k3 k4 k5 k6 ⟨k7, k8, k9⟩ hz hnr (fun xs h => Small.never _ _ xs h)
        (fun suf T S u sh tag parts h1 h2 h3 => look86 hcx h65 h64 _ [] suf T S u sh tag parts OkH.nil h1 h2 h3)
    · have F := fc85 hcx hnr h65 h64 h84 h106 d
      exact fc85s (CxOK.sm (M := M) ok ⟨_, Tryd.func85, rfl, rfl⟩ (s85 (fun q => q.d = d) F)) l f S T u sh d a b k1 k2 k3 k4 k5 k6 ⟨k7, k8, k9⟩
        (fun suf T u sh a b h1 h2 h3 h4 => look85 (fun q => q.d = d) F _ ⟨l, f, S, T, u, sh, d, a, b, k1, k2, k3, h3, h2, by omega, h4.1, h4.2.2, h4.2.1⟩ rfl [] suf OkH.nil h1)
        (by omega) (by omega) (by omega) hnr
        (fun xs h => (Small.miss _ _ (by decide) _ _).trans (Small.never _ _ xs h))
        (fun suf T S u sh tag parts h1 h2 h3 => (Small.miss _ _ (by decide) _ _).trans (look86 hcx h65 h64 _ [] suf T S u sh tag parts OkH.nil h1 h2 h3))
        (fun xs h => Small.never _ _ xs h) h84 h106
abbrev S85 (F : ∀ q : A85, F85 gl q) := s85 (fun _ => True) (fun q _ => F q)
abbrev B52 := {q : List Leaf × Nat × List Dig × Nat × List (List UInt8) × Nat × Bool // LZ q.1 ∧ q.2.1 ≤ 5000 ∧ q.2.2.1.length ≤ 1000000 ∧ q.2.2.2.2.2.1 ≤ q.2.2.1.length ∧ q.2.2.2.2.1.length ≤ 800000 ∧ q.2.2.2.1 ≤ 4096}
def s52 (fc : ∀ q : B52, FC Tryd.prog gl 52 [.bp 0 0, sl eC .no q.1.1, .val (nI q.1.2.1), .val (nI q.1.2.2.2.1)] [some [sl sC (.own 1) (q.1.2.2.2.2.1), sl dC .no q.1.2.2.1, .val (nI (q.1.2.2.2.2.2.1)), .val (.bool (q.1.2.2.2.2.2.2))]] (.agg (cl bC (rooR q.1.1 q.1.2.1 q.1.2.2.1 q.1.2.2.2.1 (q.1.2.2.2.2.1, q.1.2.2.2.2.2.1, q.1.2.2.2.2.2.2)).1)) [some [sl sC (.own 1) ((rooR q.1.1 q.1.2.1 q.1.2.2.1 q.1.2.2.2.1 (q.1.2.2.2.2.1, q.1.2.2.2.2.2.1, q.1.2.2.2.2.2.2)).2.1), sl dC .no q.1.2.2.1, .val (nI ((rooR q.1.1 q.1.2.1 q.1.2.2.1 q.1.2.2.2.1 (q.1.2.2.2.2.1, q.1.2.2.2.2.2.1, q.1.2.2.2.2.2.2)).2.2.1)), .val (.bool ((rooR q.1.1 q.1.2.1 q.1.2.2.1 q.1.2.2.2.1 (q.1.2.2.2.2.1, q.1.2.2.2.2.2.1, q.1.2.2.2.2.2.2)).2.2.2))]]) : Small Tryd.prog gl 52 B52 where
  k := 1
  j := 0
  args q := [.bp 0 0, sl eC .no q.1.1, .val (nI q.1.2.1), .val (nI q.1.2.2.2.1)]
  X q := [some [sl sC (.own 1) (q.1.2.2.2.2.1), sl dC .no q.1.2.2.1, .val (nI (q.1.2.2.2.2.2.1)), .val (.bool (q.1.2.2.2.2.2.2))]]
  r q := .agg (cl bC (rooR q.1.1 q.1.2.1 q.1.2.2.1 q.1.2.2.2.1 (q.1.2.2.2.2.1, q.1.2.2.2.2.2.1, q.1.2.2.2.2.2.2)).1)
  Y q := [some [sl sC (.own 1) ((rooR q.1.1 q.1.2.1 q.1.2.2.1 q.1.2.2.2.1 (q.1.2.2.2.2.1, q.1.2.2.2.2.2.1, q.1.2.2.2.2.2.2)).2.1), sl dC .no q.1.2.2.1, .val (nI ((rooR q.1.1 q.1.2.1 q.1.2.2.1 q.1.2.2.2.1 (q.1.2.2.2.2.1, q.1.2.2.2.2.2.1, q.1.2.2.2.2.2.2)).2.2.1)), .val (.bool ((rooR q.1.1 q.1.2.1 q.1.2.2.1 q.1.2.2.2.1 (q.1.2.2.2.2.1, q.1.2.2.2.2.2.1, q.1.2.2.2.2.2.2)).2.2.2))]]
  k0 := by decide
  hk _ := rfl
  hy _ := rfl
  al q := treS _ _ _ _
  nr q := by simp only [noRefs_cons, noRefs_nil, noRef_val, noRef_sl, Bool.and_true]; rfl
  nx q := tre_nr _ _ _ _
  at0 q := ⟨0, rfl⟩
  inj := fun x y h1 h2 => by
    simp only [List.cons.injEq, Option.some.injEq, C.val.injEq, Value.int.injEq, Value.bool.injEq, nI_inj, sl_inj, and_true, true_and] at h1 h2
    simp only [h1, h2, and_self]
  fc q := fc q
theorem gc52 (hcx : CxOK (cxP gl M pu)) (hnr : ∀ (g : Nat) (xs : List C), noRefs 0 xs = false → pu g xs = none) (h65 : ∀ (tag : Int) (parts : List (List UInt8)), (inp tag parts).length < 1099511627776 → pu 65 [.val (.int .i64 tag), sl sC .no parts] = some (sl bC (.own 1) (inp tag parts))) (h64 : ∀ b : List UInt8, b.length < 35184372088832 → pu 64 [sl bC .no b] = some (.agg (cl bC ((sha b).take 16)))) (h84 : ∀ h : List UInt8, h.length = 16 → pu 84 [.agg (cl bC h)] = some (.val (str h))) (h106 : ∀ n : Nat, n ≤ 4611686018427387000 → pu 106 [.val (nI n)] = some (.val (nI (halfT n)))) (h83 : ∀ n : Int, -9223372036854775808 ≤ n ∧ n ≤ 9223372036854775807 → pu 83 [.val (.int .i64 n)] = some (sl bC (.own 1) (wint n))) (q : B52) : FC Tryd.prog gl 52 [.bp 0 0, sl eC .no q.1.1, .val (nI q.1.2.1), .val (nI q.1.2.2.2.1)] [some [sl sC (.own 1) (q.1.2.2.2.2.1), sl dC .no q.1.2.2.1, .val (nI (q.1.2.2.2.2.2.1)), .val (.bool (q.1.2.2.2.2.2.2))]] (.agg (cl bC (rooR q.1.1 q.1.2.1 q.1.2.2.1 q.1.2.2.2.1 (q.1.2.2.2.2.1, q.1.2.2.2.2.2.1, q.1.2.2.2.2.2.2)).1)) [some [sl sC (.own 1) ((rooR q.1.1 q.1.2.1 q.1.2.2.1 q.1.2.2.2.1 (q.1.2.2.2.2.1, q.1.2.2.2.2.2.1, q.1.2.2.2.2.2.2)).2.1), sl dC .no q.1.2.2.1, .val (nI ((rooR q.1.1 q.1.2.1 q.1.2.2.1 q.1.2.2.2.1 (q.1.2.2.2.2.1, q.1.2.2.2.2.2.1, q.1.2.2.2.2.2.2)).2.2.1)), .val (.bool ((rooR q.1.1 q.1.2.1 q.1.2.2.1 q.1.2.2.2.1 (q.1.2.2.2.2.1, q.1.2.2.2.2.2.1, q.1.2.2.2.2.2.2)).2.2.2))]] := by
  have F : ∀ q : A85, F85 gl q := fun q => fc85 hcx hnr h65 h64 h84 h106 q.d q rfl
  have ok := CxOK.sm (M := M) (CxOK.sm (M := M) (toR hcx M) ⟨_, Tryd.func86, rfl, rfl⟩ (s86 hcx h65 h64)) ⟨_, Tryd.func85, rfl, rfl⟩ (S85 F)
  exact fc52 (hcx := ok) (hnr := hnr) (hn86 := fun xs h => (Small.miss _ _ (by decide) _ _).trans (Small.never _ _ xs h))
    (hq86 := fun suf T S u sh tag parts h1 h2 h3 => (Small.miss _ _ (by decide) _ _).trans (look86 hcx h65 h64 _ [] suf T S u sh tag parts OkH.nil h1 h2 h3))
    (hn85 := fun xs h => Small.never _ _ xs h)
    (hq85 := fun suf l f S d T u sh a b h1 h2 h3 h4 h5 h6 h7 h8 => look85 _ _ _ ⟨l, f, S, T, u, sh, d, a, b, h2, h3, h4, h5, h6, h7, h8⟩ True.intro [] suf OkH.nil h1)
    (h84 := h84) (h83 := h83) (l := q.1.1) (f := q.1.2.1) (S := q.1.2.2.1) (T := q.1.2.2.2.2.1) (u := q.1.2.2.2.2.2.1) (sh := q.1.2.2.2.2.2.2) (n := q.1.2.2.2.1) (hl := q.2.1) (hf := q.2.2.1) (hS := q.2.2.2.1) (hu := q.2.2.2.2.1) (hT := q.2.2.2.2.2.1) (hn := q.2.2.2.2.2.2)
end
end Go.Sx
namespace Go.Sx
open Go.RowKit Go.Proofs
set_option maxRecDepth 100000
theorem hnr_ext {pu : Nat → List C → Option C} (hnr : ∀ f xs, noRefs 0 xs = false → pu f xs = none) {α : Type} {enc : α → List C} {out : α → C} {f : Nat} (he : ∀ a, noRefs 0 (enc a) = true) : ∀ g xs, noRefs 0 xs = false → Sx.ext pu f (tabOf enc out) g xs = none := fun g xs hr => by
  by_cases hgf : g = f
  · subst hgf
    rw [ext_hit]
    cases hq : tabOf enc out xs with
    | none => rfl
    | some c =>
      obtain ⟨a, rfl, _⟩ := tabOf_some hq
      rw [he a] at hr; cases hr
  · rw [ext_miss hgf]; exact hnr g xs hr
theorem eC_inj {x y : Leaf} : eC x = eC y ↔ x = y := ⟨fun h => Inj.inj _ _ h, fun h => by rw [h]⟩
theorem S8_inj {s t : S8} : s.l = t.l ↔ s = t := by
  constructor
  · intro h
    obtain ⟨a, b, c, d, e, f, g, i⟩ := s
    obtain ⟨a', b', c', d', e', f', g', i'⟩ := t
    simpa [S8.l] using h
  · rintro rfl; rfl
theorem cells_inj {s s' : S8} {b b' : List UInt8} {n n' : Nat} (hb : b.length = 64) (hb' : b'.length = 64) (h : cl wC s.l ++ (cl bC b ++ [C.val (nU n)]) = cl wC s'.l ++ (cl bC b' ++ [C.val (nU n')])) : s = s' ∧ b = b' ∧ n = n' := by
  rw [app_inj (f := wC) (by rw [S8.l_len, S8.l_len]), app_inj (f := bC) (by rw [hb, hb'])] at h
  simp only [S8_inj, List.cons.injEq, C.val.injEq, nU_inj, and_true] at h
  exact h
theorem feed_out (s s' : S8) (b b' : List UInt8) (n n' : Nat) (t t' : List UInt8) (hb : b.length = 64) (hb' : b'.length = 64)
    (h : [C.agg (cl wC s.l ++ (cl bC b ++ [C.val (nU n)])), C.val (str t)] = [C.agg (cl wC s'.l ++ (cl bC b' ++ [C.val (nU n')])), C.val (str t')]) : C.agg (feed ⟨s, b, n⟩ t).cells = C.agg (feed ⟨s', b', n'⟩ t').cells := by
  simp only [List.cons.injEq, C.agg.injEq, C.val.injEq, str_inj, and_true] at h
  obtain ⟨rfl, rfl, rfl⟩ := cells_inj hb hb' h.1
  rw [h.2]
theorem sum_out (s s' : S8) (b b' : List UInt8) (n n' : Nat) (hb : b.length = 64) (hb' : b'.length = 64)
    (h : [C.agg (cl wC s.l ++ (cl bC b ++ [C.val (nU n)]))] = [C.agg (cl wC s'.l ++ (cl bC b' ++ [C.val (nU n')]))]) : C.agg (cl bC (sumF ⟨s, b, n⟩)) = C.agg (cl bC (sumF ⟨s', b', n'⟩)) := by
  simp only [List.cons.injEq, C.agg.injEq, and_true] at h
  obtain ⟨rfl, rfl, rfl⟩ := cells_inj hb hb' h
  rfl
section
variable {gl : Nat → C} {M : Nat} {pu : Nat → List C → Option C}
structure A91 where
  (l : List Leaf) (f e z : Nat) (lv : List Leaf) (S : List Dig) (d a b : Nat)
  ok : OkL l ∧ (f ≤ 5000 ∧ e ≤ 5000) ∧ S.length ≤ 100000 - 2 ^ d ∧ d ≤ 12 ∧ a < b ∧ b ≤ l.length ∧ b - a ≤ 2 ^ d
abbrev F91 (gl : Nat → C) (q : A91) : Prop := FC Tryd.prog gl 91 [.val (nI q.a), .val (nI q.b), .kp [.val (nI q.f)], .kp [.val (nI q.e)], .bp 0 0, .kp [sl eC .no q.l], atG 91 [.kp [.val (nI q.f)], .kp [.val (nI q.e)], .bp 0 0, .kp [sl eC .no q.l]] q.d] [some [.val (nI q.f), .val (nI q.z), sl eC .no q.lv, sl dC (.own 16) q.S]] (.tup []) [some [.val (nI q.f), .val (nI q.z), sl eC .no q.lv, sl dC (.own 16) (q.S ++ sdsT q.l q.f q.e q.d q.a q.b)]]
def s91 (W : A91 → Prop) (fc : ∀ q : A91, W q → F91 gl q) : Small Tryd.prog gl 91 {q : A91 // W q} where
  k := 1
  j := 4
  args q := [.val (nI q.1.a), .val (nI q.1.b), .kp [.val (nI q.1.f)], .kp [.val (nI q.1.e)], .bp 0 0, .kp [sl eC .no q.1.l], atG 91 [.kp [.val (nI q.1.f)], .kp [.val (nI q.1.e)], .bp 0 0, .kp [sl eC .no q.1.l]] q.1.d]
  X q := [some [.val (nI q.1.f), .val (nI q.1.z), sl eC .no q.1.lv, sl dC (.own 16) q.1.S]]
  r q := .tup []
  Y q := [some [.val (nI q.1.f), .val (nI q.1.z), sl eC .no q.1.lv, sl dC (.own 16) (q.1.S ++ sdsT q.1.l q.1.f q.1.e q.1.d q.1.a q.1.b)]]
  k0 := by decide
  hk _ := rfl
  hy _ := rfl
  al q := fun o h => by rw [List.mem_singleton.1 h]; rfl
  nr q := by
    simp only [noRefs_cons, noRefs_nil, noRef_val, noRef_kp, noRef_sl, Bool.and_true, Bool.true_and]
    rw [atG_nr 1 91 _ (by simp only [noRefs_cons, noRefs_nil, noRef_val, noRef_kp, noRef_sl, Bool.and_true, Bool.true_and]; rfl)]; rfl
  nx q := prf_nr _ _ _ _
  at0 q := ⟨0, rfl⟩
  inj := fun x y h1 h2 => by
    simp only [List.cons.injEq, Option.some.injEq, C.val.injEq, C.kp.injEq, nI_inj, sl_inj, and_true, true_and] at h1 h2
    have e := atG_inj h1.2.2.2.2.2
    simp only [h1, h2, e, and_self]
  fc q := fc q.1 q.2
theorem look91 (W : A91 → Prop) (fc : ∀ q : A91, W q → F91 gl q) (hp : Nat → List C → Hp → Option (C × Hp)) (q : A91) (hq : W q) (pre suf : Hp) (h0 : OkH pre) (h1 : OkH suf) :
    (s91 W fc).tab hp 91 [.val (nI q.a), .val (nI q.b), .kp [.val (nI q.f)], .kp [.val (nI q.e)], .bp pre.length 0, .kp [sl eC .no q.l], atG 91 [.kp [.val (nI q.f)], .kp [.val (nI q.e)], .bp pre.length 0, .kp [sl eC .no q.l]] q.d] (pre ++ ([some [.val (nI q.f), .val (nI q.z), sl eC .no q.lv, sl dC (.own 16) q.S]] ++ suf)) = some (.tup [], pre ++ ([some [.val (nI q.f), .val (nI q.z), sl eC .no q.lv, sl dC (.own 16) (q.S ++ sdsT q.l q.f q.e q.d q.a q.b)]] ++ suf)) := by
  have h := Small.look (s91 W fc) hp ⟨q, hq⟩ pre suf h0 h1
  simpa only [s91, atG_bk, List.length_nil, Nat.zero_add, Nat.add_zero, bkCs, bkC, bks_cl, bk_sl, shH_cons, shH_nil, Option.map_some, List.map_cons, List.map_nil, List.nil_append, List.cons_append] using h
theorem fc91 (hcx : CxOK (cxP gl M pu)) (hnr : ∀ (g : Nat) (xs : List C), noRefs 0 xs = false → pu g xs = none) (h51 : ∀ l : List Leaf, OkL l → 0 < l.length → pu 51 [sl eC .no l] = some (.agg (cl bC (digT l)))) (h81 : ∀ x y : Nat, x ≤ y ∧ y ≤ 4611686018427387000 → pu 81 [.val (nI x), .val (nI y)] = some (.val (nI (x + halfT (y - x))))) : ∀ (d : Nat) (q : A91), q.d = d → F91 gl q
  | 0, ⟨l, f, e, z, lv, S, d, a, b, hk⟩, hd => by
    obtain rfl : d = 0 := hd
    obtain ⟨k1, k2, k3, k4, k5⟩ := hk
    exact fc91z (hcx := toR hcx M) (l := l) (f := f) (e := e) (z := z) (lv := lv) (S := S) (d := 0) (a := a) (b := b) (hl := k1) (hf := k2) (hab := k5) (hS := k3) (hd := k4) (hz := .inr (.inr k5.2.2)) (hnr := hnr) (h51 := h51)
  | d + 1, ⟨l, f, e, z, lv, S, d', a, b, hk⟩, hd => by
    obtain rfl : d' = d + 1 := hd
    obtain ⟨k1, k2, k3, k4, k5⟩ := hk
    by_cases hz : b ≤ f ∨ e ≤ a ∨ b - a ≤ 1
    · exact fc91z (hcx := toR hcx M) (l := l) (f := f) (e := e) (z := z) (lv := lv) (S := S) (d := d + 1) (a := a) (b := b) (hl := k1) (hf := k2) (hab := k5) (hS := k3) (hd := k4) (hz := hz) (hnr := hnr) (h51 := h51)
    · have F := fc91 hcx hnr h51 h81 d
      exact fc91s (hcx := CxOK.sm (M := M) (toR hcx M) ⟨_, Tryd.func91, rfl, rfl⟩ (s91 (fun q => q.d = d) F)) (l := l) (f := f) (e := e) (z := z) (lv := lv) (S := S) (d := d) (a := a) (b := b) (hl := k1) (hf := k2) (hab := k5) (hS := k3) (hd := k4)
        (hq91 := fun S a b h1 h2 => by
          have h := look91 (fun q => q.d = d) F (fun _ _ _ => none) ⟨l, f, e, z, lv, S, d, a, b, k1, k2, h1, by omega, h2⟩ rfl [] [] OkH.nil OkH.nil
          simpa only [List.length_nil, List.nil_append, List.append_nil] using h)
        (hz1 := by omega) (hz2 := by omega) (hz3 := by omega) (hnr := hnr) (hn91 := fun xs h => Small.never _ _ xs h) (h81 := h81)
theorem fc57' (hcx : CxOK (cxP gl M pu)) (hnr : ∀ (g : Nat) (xs : List C), noRefs 0 xs = false → pu g xs = none) (h63 : ∀ l : List Leaf, l.length ≤ 1000000 → pu 63 [sl eC .no l] = some (sl eC (.own 2) l)) (h51 : ∀ l : List Leaf, OkL l → 0 < l.length → pu 51 [sl eC .no l] = some (.agg (cl bC (digT l)))) (h81 : ∀ x y : Nat, x ≤ y ∧ y ≤ 4611686018427387000 → pu 81 [.val (nI x), .val (nI y)] = some (.val (nI (x + halfT (y - x))))) (l : List Leaf) (f e : Nat) (hl : OkL l) (hfe : f ≤ e ∧ e ≤ l.length) :
    FC Tryd.prog gl 57 [sl eC .no l, .val (nI f), .val (nI e)] [] (.agg [.val (nI f), .val (nI l.length), sl eC .no ((l.drop f).take (e - f)), sl dC .no (shdT l f e)]) [] := by
  have F : ∀ q : A91, True → F91 gl q := fun q _ => fc91 hcx hnr h51 h81 q.d q rfl
  exact fc57 (hcx := CxOK.sm (M := M) (toR hcx M) ⟨_, Tryd.func91, rfl, rfl⟩ (s91 (fun _ => True) F)) (hnr := hnr) (h63 := h63) (hn91 := fun xs h => Small.never _ _ xs h)
    (hq91 := fun pre suf l f e z lv S d a b h0 h1 h2 h3 h4 h5 h6 => look91 _ F _ ⟨l, f, e, z, lv, S, d, a, b, h2, h3, h4, h5, h6⟩ True.intro pre suf h0 h1) (l := l) (f := f) (e := e) (hl := hl) (hfe := hfe)
structure A93 where
  (l : List Leaf) (f z : Nat) (S0 : List Dig) (st : US) (d a b : Nat)
  ok : OkL l ∧ f ≤ 5000 ∧ st.2.length ≤ 1000000 ∧ a < b ∧ b ≤ 5000 ∧ b - a ≤ 2 ^ d
abbrev F93 (gl : Nat → C) (q : A93) : Prop := FC Tryd.prog gl 93 [.val (nI q.a), .val (nI q.b), .bp 0 0, .kp [.val (nI q.f), .val (nI q.z), sl eC .no q.l, sl dC .no q.S0], .kp [.val (nI (q.f + q.l.length))], .bp 1 0, atG 93 [.bp 0 0, .kp [.val (nI q.f), .val (nI q.z), sl eC .no q.l, sl dC .no q.S0], .kp [.val (nI (q.f + q.l.length))], .bp 1 0] q.d] [some [.val (.bool q.st.1)], some [sl dC .no q.st.2]] (.agg (cl bC (unO q.l q.f q.d q.a q.b q.st).1)) [some [.val (.bool (unO q.l q.f q.d q.a q.b q.st).2.1)], some [sl dC .no (unO q.l q.f q.d q.a q.b q.st).2.2]]
def s93 (W : A93 → Prop) (fc : ∀ q : A93, W q → F93 gl q) : Small Tryd.prog gl 93 {q : A93 // W q} where
  k := 2
  j := 2
  args q := [.val (nI q.1.a), .val (nI q.1.b), .bp 0 0, .kp [.val (nI q.1.f), .val (nI q.1.z), sl eC .no q.1.l, sl dC .no q.1.S0], .kp [.val (nI (q.1.f + q.1.l.length))], .bp 1 0, atG 93 [.bp 0 0, .kp [.val (nI q.1.f), .val (nI q.1.z), sl eC .no q.1.l, sl dC .no q.1.S0], .kp [.val (nI (q.1.f + q.1.l.length))], .bp 1 0] q.1.d]
  X q := [some [.val (.bool q.1.st.1)], some [sl dC .no q.1.st.2]]
  r q := .agg (cl bC (unO q.1.l q.1.f q.1.d q.1.a q.1.b q.1.st).1)
  Y q := [some [.val (.bool (unO q.1.l q.1.f q.1.d q.1.a q.1.b q.1.st).2.1)], some [sl dC .no (unO q.1.l q.1.f q.1.d q.1.a q.1.b q.1.st).2.2]]
  k0 := by decide
  hk _ := rfl
  hy _ := rfl
  al q := fun o h => by
    rcases List.mem_cons.1 h with h | h
    · rw [h]; rfl
    · rw [List.mem_singleton.1 h]; rfl
  nr q := by
    simp only [noRefs_cons, noRefs_nil, noRef_val, noRef_kp, noRef_sl, Bool.and_true, Bool.true_and]
    rw [atG_nr 2 93 _ (by simp only [noRefs_cons, noRefs_nil, noRef_val, noRef_kp, noRef_sl, Bool.and_true, Bool.true_and]; rfl)]; rfl
  nx q := und_nr _ _
  at0 q := ⟨0, rfl⟩
  inj := fun x y h1 h2 => by
    simp only [List.cons.injEq, Option.some.injEq, C.val.injEq, C.kp.injEq, Value.bool.injEq, nI_inj, sl_inj, and_true, true_and] at h1 h2
    have e := atG_inj h1.2.2.2.2
    have e2 : x.1.st = y.1.st := Prod.ext h2.1 h2.2
    simp only [h1, e2, e, and_self]
  fc q := fc q.1 q.2
theorem look93 (W : A93 → Prop) (fc : ∀ q : A93, W q → F93 gl q) (hp : Nat → List C → Hp → Option (C × Hp)) (q : A93) (hq : W q) (suf : Hp) (h1 : OkH suf) :
    (s93 W fc).tab hp 93 [.val (nI q.a), .val (nI q.b), .bp 0 0, .kp [.val (nI q.f), .val (nI q.z), sl eC .no q.l, sl dC .no q.S0], .kp [.val (nI (q.f + q.l.length))], .bp 1 0, atG 93 [.bp 0 0, .kp [.val (nI q.f), .val (nI q.z), sl eC .no q.l, sl dC .no q.S0], .kp [.val (nI (q.f + q.l.length))], .bp 1 0] q.d] ([some [.val (.bool q.st.1)], some [sl dC .no q.st.2]] ++ suf) = some (.agg (cl bC (unO q.l q.f q.d q.a q.b q.st).1), [some [.val (.bool (unO q.l q.f q.d q.a q.b q.st).2.1)], some [sl dC .no (unO q.l q.f q.d q.a q.b q.st).2.2]] ++ suf) := by
  have h := Small.look (s93 W fc) hp ⟨q, hq⟩ [] suf OkH.nil h1
  simpa only [s93, atG_bk, List.length_nil, Nat.zero_add, Nat.add_zero, bkCs, bkC, bks_cl, bk_sl, shH_cons, shH_nil, Option.map_some, List.map_cons, List.map_nil, List.nil_append, List.cons_append] using h
theorem fc93 (hcx : CxOK (cxP gl M pu)) (hnr : ∀ (g : Nat) (xs : List C), noRefs 0 xs = false → pu g xs = none) (h80 : ∀ x : Leaf, x.1.length ≤ 65536 ∧ x.2.length ≤ 65536 → pu 80 [.agg (eC x)] = some (.agg (cl bC (lefT x)))) (h81 : ∀ x y : Nat, x ≤ y ∧ y ≤ 4611686018427387000 → pu 81 [.val (nI x), .val (nI y)] = some (.val (nI (x + halfT (y - x))))) (h82 : ∀ a b : List UInt8, a.length = 16 → b.length = 16 → pu 82 [.agg (cl bC a), .agg (cl bC b)] = some (.agg (cl bC (nodT a b)))) : ∀ (d : Nat) (q : A93), q.d = d → F93 gl q
  | 0, ⟨l, f, z, S0, st, d, a, b, hk⟩, hd => by
    obtain rfl : d = 0 := hd
    obtain ⟨k1, k2, k3, k4⟩ := hk
    exact fc93z (hcx := toR hcx M) (l := l) (f := f) (z := z) (S0 := S0) (st := st) (d := 0) (a := a) (b := b) (hl := k1) (hf := k2) (hS := k3) (hab := k4) (hz := .inr (.inr (.inr k4.2.2))) (hnr := hnr) (h80 := h80)
  | d + 1, ⟨l, f, z, S0, st, d', a, b, hk⟩, hd => by
    obtain rfl : d' = d + 1 := hd
    obtain ⟨k1, k2, k3, k4⟩ := hk
    by_cases hz : st.1 = false ∨ b ≤ f ∨ f + l.length ≤ a ∨ b - a ≤ 1
    · exact fc93z (hcx := toR hcx M) (l := l) (f := f) (z := z) (S0 := S0) (st := st) (d := d + 1) (a := a) (b := b) (hl := k1) (hf := k2) (hS := k3) (hab := k4) (hz := hz) (hnr := hnr) (h80 := h80)
    · have F := fc93 hcx hnr h80 h81 h82 d
      have hst : st.1 = true := by
        cases h : st.1 with
        | true => rfl
        | false => exact (hz (.inl h)).elim
      exact fc93s (hcx := CxOK.sm (M := M) (toR hcx M) ⟨_, Tryd.func93, rfl, rfl⟩ (s93 (fun q => q.d = d) F)) (l := l) (f := f) (z := z) (S0 := S0) (st := st) (d := d) (a := a) (b := b) (hl := k1) (hf := k2) (hS := k3) (hab := k4)
        (hq93 := fun suf st a b h1 h2 h3 => look93 (fun q => q.d = d) F _ ⟨l, f, z, S0, st, d, a, b, k1, k2, h2, h3⟩ rfl suf h1)
        (hz0 := hst) (hz1 := by omega) (hz2 := by omega) (hz3 := by omega) (hnr := hnr) (h81 := h81) (h82 := h82)
theorem fc61' (hcx : CxOK (cxP gl M pu)) (hnr : ∀ (g : Nat) (xs : List C), noRefs 0 xs = false → pu g xs = none) (h15 : ∀ l : List Leaf, LB l → pu 15 [sl eC .no l] = some (.val (nI (valT l)))) (h50 : ∀ (n : Nat) (d : List UInt8), n ≤ 4096 → d.length = 16 → pu 50 [.val (nI n), .agg (cl bC d)] = some (.agg (cl bC (rotT n d)))) (h80 : ∀ x : Leaf, x.1.length ≤ 65536 ∧ x.2.length ≤ 65536 → pu 80 [.agg (eC x)] = some (.agg (cl bC (lefT x)))) (h81 : ∀ x y : Nat, x ≤ y ∧ y ≤ 4611686018427387000 → pu 81 [.val (nI x), .val (nI y)] = some (.val (nI (x + halfT (y - x))))) (h82 : ∀ a b : List UInt8, a.length = 16 → b.length = 16 → pu 82 [.agg (cl bC a), .agg (cl bC b)] = some (.agg (cl bC (nodT a b))))
    (r : List UInt8) (f z : Int) (l : List Leaf) (S : List Dig) (hr : r.length = 16) (hf : -9223372036854775808 ≤ f ∧ f ≤ 9223372036854775807) (hz : -9223372036854775808 ≤ z ∧ z ≤ 9223372036854775807) (hl : LB l) (hS : S.length ≤ 1000000) :
    FC Tryd.prog gl 61 [.agg [.val (.int .i64 f), .val (.int .i64 z), sl eC .no l, sl dC .no S], .agg (cl bC r)] [] (.val (.bool (undT r f z l S))) [] := by
  have F : ∀ q : A93, True → F93 gl q := fun q _ => fc93 hcx hnr h80 h81 h82 q.d q rfl
  exact fc61 (hcx := CxOK.sm (M := M) (toR hcx M) ⟨_, Tryd.func93, rfl, rfl⟩ (s93 (fun _ => True) F)) (hnr := hnr) (h15 := h15) (h50 := h50)
    (hq93 := fun suf l f z S0 st d a b h1 h2 h3 h4 h5 => look93 _ F _ ⟨l, f, z, S0, st, d, a, b, h2, h3, h4, h5⟩ True.intro suf h1) (r := r) (f := f) (z := z) (l := l) (S := S) (hr := hr) (hf := hf) (hz := hz) (hl := hl) (hS := hS)
theorem fc63 (hcx : CxOK (cxP gl M pu)) (l : List Leaf) (hl : l.length ≤ 1000000) : FC Tryd.prog gl 63 [sl eC .no l] [] (sl eC (.own 2) l) [] := by
  by_cases h : l = []
  · subst h
    refine FC.ofNil (pre := []) (post := []) ⟨_, Tryd.func63, rfl, rfl⟩ fun a cap hc => ?_
    cases a with
    | none => exact fc63b hcx cap hc
    | some x => exact fc63c hcx x cap hc
  · exact fc63a hcx l hl h
theorem noRef_fnM (k f : Nat) (xs : List C) : noRef k (.fn f xs) = noRefs k xs := rfl
theorem noRef_eC (k : Nat) (x : Leaf) : noRefs k (eC x) = true := rfl
theorem atG_nr79 (k : Nat) (l : List Leaf) (d : Nat) : noRef k (atG 79 [.kp [sl eC .no l]] d) = true := atG_nr k 79 _ (by simp only [noRefs_cons, noRefs_nil, noRef_kp, noRef_sl, Bool.and_self]) d
theorem fc90' (hcx : CxOK (cxP gl M pu)) (a b : List UInt8) : FC Tryd.prog gl 90 [.val (str a), .val (str b)] [] (.val (.int .i64 (cmpB a b))) [] := fc90 a b
theorem fc39 (hcx : CxOK (cxP gl M pu)) (n : Int) (hn : -9223372036854775808 ≤ n ∧ n ≤ 9223372036854775807) : FC Tryd.prog gl 39 [.val (.int .i64 n)] [] (sl bC (.own 1) (wint n)) [] := by
  by_cases h : 0 ≤ n
  · obtain ⟨m, rfl⟩ : ∃ m : Nat, n = (m : Int) := ⟨n.toNat, by omega⟩
    rw [wint_pos]; exact fc39p hcx m (by omega)
  · obtain ⟨m, rfl⟩ : ∃ m : Nat, n = -1 - (m : Int) := ⟨(-1 - n).toNat, by omega⟩
    rw [wint_neg _ (le_len 8 m (by omega))]; exact fc39n hcx m (by omega)
theorem fc83 (hcx : CxOK (cxP gl M pu)) (n : Int) (hn : -9223372036854775808 ≤ n ∧ n ≤ 9223372036854775807) : FC Tryd.prog gl 83 [.val (.int .i64 n)] [] (sl bC (.own 1) (wint n)) [] := by
  by_cases h : 0 ≤ n
  · obtain ⟨m, rfl⟩ : ∃ m : Nat, n = (m : Int) := ⟨n.toNat, by omega⟩
    rw [wint_pos]; exact fc83p hcx m (by omega)
  · obtain ⟨m, rfl⟩ : ∃ m : Nat, n = -1 - (m : Int) := ⟨(-1 - n).toNat, by omega⟩
    rw [wint_neg _ (le_len 8 m (by omega))]; exact fc83n hcx m (by omega)
end
end Go.Sx
namespace Go.Sx
open Go.RowKit Go.Proofs
set_option maxRecDepth 100000
set_option maxHeartbeats 8000000
def setD (d : Dig) (i : Nat) (x : UInt8) : Dig := ⟨d.1.set i x, by rw [List.length_set]; exact d.2⟩
abbrev flip (d : Dig) (i : Nat) : Dig := setD d i (gt d.1 i ^^^ UInt8.ofNat 1)
abbrev one16 : Dig := ⟨(List.replicate 16 0).set 0 (UInt8.ofNat 1), by simp⟩
theorem apFP_some (x : List C) (h : Hp) : apFP (some x) h = (5, h.length) := rfl
theorem i_addX {P : Program} {t : TypeId} (x : Int) (y : Nat) : binPlan P .add t (.val (.int .i64 x)) (.val (nI y)) = some (vp (.val (.int .i64 (IntKind.i64.wrap (x + ((y : Nat) : Int)))))) := by
  simp only [nI, bin_int, sbin, ne_eq, not_true_eq_false, if_false, Option.map_some]
theorem i_subX {P : Program} {t : TypeId} (x : Int) (y : Nat) : binPlan P .sub t (.val (.int .i64 x)) (.val (nI y)) = some (vp (.val (.int .i64 (IntKind.i64.wrap (x - ((y : Nat) : Int)))))) := by
  simp only [nI, bin_int, sbin, ne_eq, not_true_eq_false, if_false, Option.map_some]
theorem fz_e (l : List Leaf) (y : Nat) : fzGv (cl eC l) l.length (2, y) = sl eC .no l := fzGv_cl eC y l _ rfl
theorem fz_s (l : List Leaf) (k : Nat) (x : Leaf) (y : Nat) : fzGv (cl eC (l.set k x)) l.length (2, y) = sl eC .no (l.set k x) := fzGv_cl eC y _ _ (by simp)
theorem fz_a (l : List Leaf) (x : Leaf) (y : Nat) : fzGv (cl eC (l ++ [x])) (l.length + 1) (2, y) = sl eC .no (l ++ [x]) := fzGv_cl eC y _ _ (by simp)
theorem fz_d (l : List Dig) (y : Nat) : fzGv (cl dC l) l.length (16, y) = sl dC .no l := fzGv_cl dC y l _ rfl
theorem fz_t (l : List Dig) (k : Nat) (x : Dig) (y : Nat) : fzGv (cl dC (l.set k x)) l.length (16, y) = sl dC .no (l.set k x) := fzGv_cl dC y _ _ (by simp)
theorem fz_b (l : List Dig) (x : Dig) (y : Nat) : fzGv (cl dC (l ++ [x])) (l.length + 1) (16, y) = sl dC .no (l ++ [x]) := fzGv_cl dC y _ _ (by simp)
theorem rem_len {α : Type} {l : List α} {k : Nat} (h : k < l.length) : l.length - 1 = (l.take k ++ l.drop (k + 1)).length := by rw [List.length_append, List.length_take, List.length_drop]; omega
theorem fz_z {α : Type} (f : α → List C) {s : Nat} [hf : Cel f s] {l : List α} {k : Nat} (h : k < l.length) (y : Nat) : fzGv (cl f (l.take k ++ l.drop (k + 1))) (l.length - 1) (s, y) = sl f .no (l.take k ++ l.drop (k + 1)) := fzGv_cl f y _ _ (rem_len h)
theorem fz_r {α : Type} (f : α → List C) {s : Nat} [hf : Cel f s] {l : List α} {k : Nat} (h : k < l.length) (y : Nat) : fzGv (cl f (l.take k ++ l.drop (k + 1) ++ l.drop (l.length - 1))) (l.length - 1) (s, y) = sl f .no (l.take k ++ l.drop (k + 1)) := by
  have e := rem_len h
  have hl := cl_len (f := f) (l.take k ++ l.drop (k + 1))
  have hl2 := cl_len (f := f) (l.take k ++ l.drop (k + 1) ++ l.drop (l.length - 1))
  have hl3 : (l.take k ++ l.drop (k + 1) ++ l.drop (l.length - 1)).length = (l.take k ++ l.drop (k + 1)).length + (l.drop (l.length - 1)).length := List.length_append
  rw [hl3, Nat.add_mul] at hl2
  unfold fzGv
  simp only []
  rw [if_pos (by rw [hl2, e]; omega), cl_app, List.take_append_of_le_length (by rw [hl, e]; exact Nat.le_refl _), List.take_of_length_le (by rw [hl, e]; exact Nat.le_refl _), e]; rfl
theorem svG_drop {α : Type} (f : α → List C) {s : Nat} [hf : Cel f s] (y : Nat) (z : List Value) (k : Nat) (l : List α) (h : z.length = s ∧ z.all (·.oneCell') = true ∧ k < l.length ∧ l.length ≤ 1000000 ∧ y ≤ 1000) :
    svG s y z k ((k + 1) * s) (l.length - (k + 1)) (some (cl f l)) = some (cl f (l.drop (k + 1))) := by
  obtain ⟨h1, h2, h3, h4, h5⟩ := h
  have hl := cl_len (f := f) l
  have hd := cl_len (f := f) (l.drop (k + 1))
  rw [List.length_drop] at hd
  have e0 : (k + 1) * s + (l.length - (k + 1)) * s = l.length * s := by rw [← Nat.add_mul]; congr 1; omega
  have e : ((List.drop ((k + 1) * s) (cl f l)).take ((l.length - (k + 1)) * s)).map C.noR = cl f (l.drop (k + 1)) := by
    rw [cl_drop, List.take_of_length_le (by omega), cl_noR]
  have hb : (k + (l.length - (k + 1))) * y ≤ 1000000 * 1000 := Nat.mul_le_mul (by omega) h5
  unfold svG
  simp only [Option.bind_some]
  rw [e, if_pos ⟨by omega, by simp only [decide_eq_true_eq]; exact ⟨hd, hf.pos, h1, by omega, by omega, h2⟩⟩]
theorem svG_d (j : Nat) (S : List Dig) (h : j < S.length ∧ S.length ≤ 1000000) : svG 16 16 (List.replicate 16 (w8 (UInt8.ofNat 0))) j ((j + 1) * 16) (S.length - (j + 1)) (some (cl dC S)) = some (cl dC (S.drop (j + 1))) := svG_drop dC 16 _ j S ⟨rfl, rfl, h.1, h.2, by omega⟩
theorem svG_e (k : Nat) (l : List Leaf) (h : k < l.length ∧ l.length ≤ 1000000) : svG 2 32 [str [], str []] k ((k + 1) * 2) (l.length - (k + 1)) (some (cl eC l)) = some (cl eC (l.drop (k + 1))) := svG_drop eC 32 _ k l ⟨rfl, rfl, h.1, h.2, by omega⟩
section
variable (cx : Cx) (apps : List Nat) (dsts : List (Option Nat)) (l : List Oper) (id' : Nat) (d : Option Nat) (e : List (Nat × C)) (h : Hp) (fs : List FP) (K : List FP → St → Prop)
theorem stAB_A {α : Type} (f : α → List C) {s : Nat} [hf : Cel f s] (e' b k : Nat) (xs : List α) (hk : k < xs.length ∧ (k ≠ 0 ∨ xs.length = 1)) :
    stAB cx apps dsts l id' d e h fs K b k (s, e') (xs.length - (k + 1)) (cl f (xs.drop (k + 1))) (some (cl f xs)) = run cx apps dsts l id' (mkE d (.gv b (xs.length - 1) (s, e')) e) (h.set b (some (cl f (xs.take k ++ xs.drop (k + 1) ++ xs.drop (xs.length - 1))))) ((4, 0) :: fs) K := by
  have hl := cl_len (f := f) xs
  have hd := cl_len (f := f) (xs.drop (k + 1))
  rw [List.length_drop] at hd
  unfold stAB
  simp only []
  rw [if_pos ⟨by rw [hl]; exact Nat.mul_le_mul_right s (by omega), by omega⟩, show k + (xs.length - (k + 1)) = xs.length - 1 by omega, cl_noR]
  have e1 : splice (cl f xs) (k * s) (cl f (xs.drop (k + 1))) = cl f (xs.take k ++ xs.drop (k + 1) ++ xs.drop (xs.length - 1)) := by
    unfold splice
    rw [hd, ← Nat.add_mul, show k + (xs.length - (k + 1)) = xs.length - 1 by omega, cl_drop, cl_take, cl_app, cl_app]
  rw [e1]
theorem stAB_B {α : Type} (f : α → List C) {s : Nat} [hf : Cel f s] (e' b k : Nat) (xs : List α) (hk : k = 0 ∧ 1 < xs.length) :
    stAB cx apps dsts l id' d e h fs K b k (s, e') (xs.length - (k + 1)) (cl f (xs.drop (k + 1))) (some (cl f xs)) = run cx apps dsts l id' (mkE d (.gv h.length (xs.length - 1) (s, e')) e) (h.set b (some deadC) ++ [some (cl f (xs.take k ++ xs.drop (k + 1)))]) ((4, 0) :: fs) K := by
  obtain ⟨rfl, h1⟩ := hk
  have hl := cl_len (f := f) xs
  have hp := hf.pos
  have hm : s ≤ xs.length * s := by
    have := Nat.mul_le_mul_right s (show 1 ≤ xs.length by omega)
    omega
  unfold stAB
  simp only []
  rw [if_neg (by omega), if_neg (by rw [hl]; omega), if_pos True.intro, cl_noR, Nat.zero_add, List.take_zero, List.nil_append]
end
theorem q_lo {y : Int} (h : -9223372036854775808 ≤ y ∧ y ≤ 9223372036854775807) : -9223372036854775808 ≤ y.tdiv ((8 : Nat) : Int) ∧ y.tdiv ((8 : Nat) : Int) ≤ 9223372036854775807 := by
  have h1 := Int.natAbs_tdiv y ((8 : Nat) : Int)
  have h2 : y.natAbs.div (((8 : Nat) : Int)).natAbs ≤ y.natAbs := Nat.div_le_self _ _
  have h3 : y.natAbs.div (((8 : Nat) : Int)).natAbs = y.natAbs / 8 := rfl
  omega
theorem splice_el {α : Type} [Inhabited α] {f : α → List C} {s : Nat} [hf : Cel f s] (l : List α) (k i : Nat) (cs : List C) (a' : α) (hk : k < l.length) (hi : i + cs.length ≤ s) (h : splice (f (gt l k)) i cs = f a') : splice (cl f l) (k * s + i) cs = cl f (l.set k a') := by
  have e : l = l.take k ++ gt l k :: l.drop (k + 1) := by
    have e1 : gt l k = l[k] := by simp [gt, List.getD, List.getElem?_eq_getElem hk]
    rw [e1, List.getElem_cons_drop, List.take_append_drop]
  have hs : l.set k a' = l.take k ++ a' :: l.drop (k + 1) := by rw [List.set_eq_take_append_cons_drop, if_pos hk]
  have hP : (cl f (l.take k)).length = k * s := by rw [cl_len (f := f), List.length_take, Nat.min_eq_left (by omega)]
  have hQ : (f (gt l k)).length = s := hf.len _
  rw [hs, cl_app, cl_cons, ← h]
  conv => lhs; rw [e]
  rw [cl_app, cl_cons]
  generalize cl f (l.take k) = P at *
  generalize f (gt l k) = Q at *
  generalize cl f (l.drop (k + 1)) = R
  unfold splice
  rw [List.take_append, List.drop_append, List.take_of_length_le (by omega), hP, Nat.add_sub_cancel_left, List.drop_of_length_le (l := P) (by omega), show k * s + i + cs.length - k * s = i + cs.length by omega,
    List.take_append_of_le_length (by omega), List.drop_append_of_le_length (by omega)]
  simp only [List.append_assoc, List.nil_append]
theorem wrc_el {α : Type} [Inhabited α] {f : α → List C} {s : Nat} [hf : Cel f s] (l : List α) (k i : Nat) (c : C) (a' : α) (hk : k < l.length) (hi : i < s) (h : splice (f (gt l k)) i [c] = f a') : wrc (cl f l) (k * s + i) [c] = some (cl f (l.set k a'), .val undef) := by
  unfold wrc
  have := Nat.mul_le_mul_right s (show k + 1 ≤ l.length by omega)
  rw [Nat.add_mul] at this
  rw [if_pos (by rw [cl_len (f := f)]; simp only [List.length_singleton]; omega), splice_el l k i [c] a' hk (by simp only [List.length_singleton]; omega) h]
theorem bent_mk (y : Int) : lay1s 4 (cl iC ((List.map Int.ofNat (List.replicate 4 0)).set 0 y)) [(1, .val (nI 4096)), (2, .val (nI 4097)), (3, .val (.int .i64 (-1)))] = some (vp (sl iC .full [y, 4096, 4097, -1])) := rfl
theorem gtE {α : Type} [Inhabited α] {l : List α} {i : Nat} (h : i < l.length) : gt l i = l[i] := by simp [gt, List.getD, List.getElem?_eq_getElem h]
theorem rdc_dg (S : List Dig) (j i : Nat) (hj : j < S.length) (hi : i < 16) : rdc (cl dC S) (j * 16 + i) = some (.val (w8 (gt (gt S j).1 i))) := by
  have e : gt S j = S[j] := by simp [gt, List.getD, List.getElem?_eq_getElem hj]
  have e2 : (gt S j).1.length = 16 := (gt S j).2
  have e3 : gt (gt S j).1 i = (gt S j).1[i] := gtE (by omega)
  unfold rdc
  rw [cl_getq (f := dC) S j i hi, List.getElem?_eq_getElem hj, ← e]
  show ((cl bC (gt S j).1)[i]?).map C.noR = _
  have h1 := cl_getq (f := bC) (gt S j).1 i 0 (by decide)
  rw [Nat.mul_one, Nat.add_zero] at h1
  rw [h1, List.getElem?_eq_getElem (by omega), e3]; rfl
theorem wrc_dg (S : List Dig) (j i : Nat) (x : UInt8) (hj : j < S.length) (hi : i < 16) : wrc (cl dC S) (j * 16 + i) [.val (w8 x)] = some (cl dC (S.set j (setD (gt S j) i x)), .val undef) :=
  wrc_el (f := dC) S j i _ _ hj hi (by
    have e2 : (gt S j).1.length = 16 := (gt S j).2
    have h1 := cl_set (f := bC) (gt S j).1 i x (by omega)
    rw [Nat.mul_one] at h1
    exact h1)
theorem wrc_e0 (l : List Leaf) (k : Nat) (x : List UInt8) (h : k < l.length) : wrc (cl eC l) (k * 2) [.val (str x)] = some (cl eC (l.set k (x, (gt l k).2)), .val undef) := wrc_el (f := eC) l k 0 _ (x, (gt l k).2) h (by decide) rfl
theorem wrc_e1 (l : List Leaf) (k : Nat) (x : List UInt8) (h : k < l.length) : wrc (cl eC l) (k * 2 + 1) [.val (str x)] = some (cl eC (l.set k ((gt l k).1, x)), .val undef) := wrc_el (f := eC) l k 1 _ ((gt l k).1, x) h (by decide) rfl
abbrev wr64 (x : Int) : Int := IntKind.i64.wrap x
abbrev PrZ := Int × Int × List Leaf × List Dig
def bentT (p : PrZ) (w y : Int) : PrZ :=
  match aroundI w 11 with
  | 0 => (wr64 (wr64 (p.1 + ((aroundI y 5 : Nat) : Int)) - ((2 : Nat) : Int)), p.2)
  | 1 => (p.1, wr64 (wr64 (p.2.1 + ((aroundI y 5 : Nat) : Int)) - ((2 : Nat) : Int)), p.2.2)
  | 2 => (p.1, gt [y, 4096, 4097, -1] (aroundI y 4), p.2.2)
  | 3 => (y, p.2)
  | 4 => (p.1, p.2.1, if 0 < p.2.2.1.length then p.2.2.1.set (aroundI y (max p.2.2.1.length 1)) (keyT (aroundI y 40), (gt p.2.2.1 (aroundI y (max p.2.2.1.length 1))).2) else p.2.2.1, p.2.2.2)
  | 5 => (p.1, p.2.1, if 0 < p.2.2.1.length then p.2.2.1.set (aroundI y (max p.2.2.1.length 1)) ((gt p.2.2.1 (aroundI y (max p.2.2.1.length 1))).1, (gt p.2.2.1 (aroundI y (max p.2.2.1.length 1))).2 ++ [120]) else p.2.2.1, p.2.2.2)
  | 6 => (p.1, p.2.1, if 0 < p.2.2.1.length then p.2.2.1.take (aroundI y (max p.2.2.1.length 1)) ++ p.2.2.1.drop (aroundI y (max p.2.2.1.length 1) + 1) else p.2.2.1, p.2.2.2)
  | 7 => (p.1, p.2.1, p.2.2.1 ++ [(keyT (aroundI y 40), [])], p.2.2.2)
  | 8 => (p.1, p.2.1, p.2.2.1, if 0 < p.2.2.2.length then p.2.2.2.set (aroundI y (max p.2.2.2.length 1)) (flip (gt p.2.2.2 (aroundI y (max p.2.2.2.length 1))) (aroundI (y.tdiv ((8 : Nat) : Int)) 16)) else p.2.2.2)
  | 9 => (p.1, p.2.1, p.2.2.1, if 0 < p.2.2.2.length then p.2.2.2.take (aroundI y (max p.2.2.2.length 1)) ++ p.2.2.2.drop (aroundI y (max p.2.2.2.length 1) + 1) else p.2.2.2)
  | _ => (p.1, p.2.1, p.2.2.1, p.2.2.2 ++ [one16])
section
variable {f z w y : Int} {l : List Leaf} {S : List Dig}
theorem bent_0 (h : aroundI w 11 = 0) : bentT (f, z, l, S) w y = (wr64 (wr64 (f + ((aroundI y 5 : Nat) : Int)) - ((2 : Nat) : Int)), z, l, S) := by unfold bentT; rw [h]; rfl
theorem bent_1 (h : aroundI w 11 = 1) : bentT (f, z, l, S) w y = (f, wr64 (wr64 (z + ((aroundI y 5 : Nat) : Int)) - ((2 : Nat) : Int)), l, S) := by unfold bentT; rw [h]; rfl
theorem bent_2 (h : aroundI w 11 = 2) : bentT (f, z, l, S) w y = (f, gt [y, 4096, 4097, -1] (aroundI y 4), l, S) := by unfold bentT; rw [h]; rfl
theorem bent_3 (h : aroundI w 11 = 3) : bentT (f, z, l, S) w y = (y, z, l, S) := by unfold bentT; rw [h]; rfl
theorem bent_4 {k : Nat} (hk : aroundI y (max l.length 1) = k) (h : aroundI w 11 = 4) (h0 : 0 < l.length) : bentT (f, z, l, S) w y = (f, z, l.set k (keyT (aroundI y 40), (gt l k).2), S) := by unfold bentT; rw [h, ← hk]; exact congrArg (fun q => (f, z, q, S)) (if_pos h0)
theorem bent_5 {k : Nat} (hk : aroundI y (max l.length 1) = k) (h : aroundI w 11 = 5) (h0 : 0 < l.length) : bentT (f, z, l, S) w y = (f, z, l.set k ((gt l k).1, (gt l k).2 ++ [120]), S) := by unfold bentT; rw [h, ← hk]; exact congrArg (fun q => (f, z, q, S)) (if_pos h0)
theorem bent_6 {k : Nat} (hk : aroundI y (max l.length 1) = k) (h : aroundI w 11 = 6) (h0 : 0 < l.length) : bentT (f, z, l, S) w y = (f, z, l.take k ++ l.drop (k + 1), S) := by unfold bentT; rw [h, ← hk]; exact congrArg (fun q => (f, z, q, S)) (if_pos h0)
theorem bent_n (h : aroundI w 11 = 4 ∨ aroundI w 11 = 5 ∨ aroundI w 11 = 6) (h0 : ¬ 0 < l.length) : bentT (f, z, l, S) w y = (f, z, l, S) := by
  unfold bentT
  rcases h with h | h | h <;> (rw [h]; exact congrArg (fun q => (f, z, q, S)) (if_neg h0))
theorem bent_7 (h : aroundI w 11 = 7) : bentT (f, z, l, S) w y = (f, z, l ++ [(keyT (aroundI y 40), [])], S) := by unfold bentT; rw [h]; rfl
theorem bent_8 {j : Nat} (hj : aroundI y (max S.length 1) = j) (h : aroundI w 11 = 8) (h0 : 0 < S.length) : bentT (f, z, l, S) w y = (f, z, l, S.set j (flip (gt S j) (aroundI (y.tdiv ((8 : Nat) : Int)) 16))) := by unfold bentT; rw [h, ← hj]; exact congrArg (fun q => (f, z, l, q)) (if_pos h0)
theorem bent_9 {j : Nat} (hj : aroundI y (max S.length 1) = j) (h : aroundI w 11 = 9) (h0 : 0 < S.length) : bentT (f, z, l, S) w y = (f, z, l, S.take j ++ S.drop (j + 1)) := by unfold bentT; rw [h, ← hj]; exact congrArg (fun q => (f, z, l, q)) (if_pos h0)
theorem bent_m (h : aroundI w 11 = 8 ∨ aroundI w 11 = 9) (h0 : ¬ 0 < S.length) : bentT (f, z, l, S) w y = (f, z, l, S) := by
  unfold bentT
  rcases h with h | h <;> (rw [h]; exact congrArg (fun q => (f, z, l, q)) (if_neg h0))
theorem bent_10 (h : aroundI w 11 = 10) : bentT (f, z, l, S) w y = (f, z, l, S ++ [one16]) := by unfold bentT; rw [h]; rfl
end
theorem X_fc28 {p : Prop} (e : p := by intro KZ hZ; simp -implicitDefEqProofs (maxSteps := 2000000) (disch := first | omega | (simp only [go_sem, lA, lD, lT, ] <;> omega) | decide) only [go_sem, ↓reduceIte, Nat.reduceEqDiff, reduceCtorEq, Nat.reduceLT, Nat.reduceBEq, Nat.reduceAdd, eq_self, decide_true, decide_false, not_true_eq_false, not_false_eq_true, e17a, e17b, e17w, List.length_cons, List.length_nil, q1, q2, hy]; with_reducible exact hZ) : p := e
theorem Y_fc28 {p : Prop} (e : p := by intro KZ hZ; simp -implicitDefEqProofs (maxSteps := 2000000) (disch := first | omega | (simp only [go_sem, lA, lD, lT, ] <;> omega) | decide) only [go_sem, ↓reduceIte, Nat.reduceEqDiff, reduceCtorEq, Nat.reduceLT, Nat.reduceBEq, Nat.reduceAdd, eq_self, decide_true, decide_false, not_true_eq_false, not_false_eq_true, e17a, e17b, e17w, List.length_cons, List.length_nil, q1, q2, hy]; with_reducible refine And.intro ?_ hZ; first | exact rfl | decide) : p := e
theorem F_fc28 {p : Prop} (e : p := by simp -implicitDefEqProofs (disch := first | omega | (simp only [go_sem, lA, lD, lT, ] <;> omega) | decide) only [go_sem, ↓reduceIte, Nat.reduceEqDiff, reduceCtorEq]; all_goals (rw [hR])) : p := e
theorem fc28 {gl : Nat → C} {M : Nat} {pu : Nat → List C → Option C}  (hcx : CxOK (cxP gl M pu))  (h17 : ∀ (n : Int) (m : Nat), -9223372036854775808 ≤ n ∧ n ≤ 9223372036854775807 ∧ 0 < m ∧ m ≤ 9223372036854775807 → pu 17 [.val (.int .i64 n), .val (nI m)] = some (.val (nI (aroundI n m)))) (h49 : ∀ n : Nat, n ≤ 1000000000000 → pu 49 [.val (nI n)] = some (.val (str (keyT n)))) (f z : Int) (l : List Leaf) (S : List Dig) (w y : Int) (hw : -9223372036854775808 ≤ w ∧ w ≤ 9223372036854775807) (hyy : -9223372036854775808 ≤ y ∧ y ≤ 9223372036854775807) (hl : l.length ≤ 1000000) (hl2 : ∀ i, i < l.length → (gt l i).1.length ≤ 1000000 ∧ (gt l i).2.length ≤ 1000000) (hS : S.length ≤ 1000000) : FC Tryd.prog gl 28 [.agg [.val (.int .i64 f), .val (.int .i64 z), sl eC .no l, sl dC .no S], .val (.int .i64 w), .val (.int .i64 y)] [] (.agg [.val (.int .i64 (bentT (f, z, l, S) w y).1), .val (.int .i64 (bentT (f, z, l, S) w y).2.1), sl eC .no (bentT (f, z, l, S) w y).2.2.1, sl dC .no (bentT (f, z, l, S) w y).2.2.2]) [] := by
 replace hcx := hcx.reN (M := 170)
 refine FC.ofA (cx := cxP gl 170 pu) (rs := [.cell 6 54]) rfl Tryd.func28 rfl rfl rfl (by simp only [List.length_cons, List.length_nil]; decide) (by simp only [go_sem]) ?_
 simp only [ini, go_sem]
 have q1 := True.intro
 have q2 := True.intro
 have hy := True.intro
 have e17a := h17 y (max l.length 1) ⟨hyy.1, hyy.2, by omega, by omega⟩
 have e17b := h17 y (max S.length 1) ⟨hyy.1, hyy.2, by omega, by omega⟩
 have e17w := h17 w 11 ⟨hw.1, hw.2, by omega, by omega⟩
 have e17_5 := h17 y 5 ⟨hyy.1, hyy.2, by omega, by omega⟩
 have e17_4 := h17 y 4 ⟨hyy.1, hyy.2, by omega, by omega⟩
 have e17_40 := h17 y 40 ⟨hyy.1, hyy.2, by omega, by omega⟩
 have hk := around_lt y (m := max l.length 1) (by omega)
 have hj := around_lt y (m := max S.length 1) (by omega)
 obtain ⟨k, hK⟩ : ∃ k, aroundI y (max l.length 1) = k := ⟨_, rfl⟩
 obtain ⟨j, hJ⟩ : ∃ j, aroundI y (max S.length 1) = j := ⟨_, rfl⟩
 obtain ⟨c, hC⟩ : ∃ c, aroundI w 11 = c := ⟨_, rfl⟩
 rw [hK] at e17a hk
 rw [hJ] at e17b hj
 rw [hC] at e17w
 have hcl : c < 11 := by rw [← hC]; exact around_lt w (by omega)
 refine Tr.w hcx [] _ [none, none] rfl rfl rfl ?_ X_fc28
 have hy := @apFP_some
 refine Tr.wDG hcx hMO [17, 21] [14, 18] _ [none] rfl rfl rfl rfl ?_ Y_fc28
 refine Tr.k [1, 2, 6, 7] ?_
 have hy := True.intro
 refine Tr.w hcx [1000028] _ [] rfl rfl rfl ?_ X_fc28
 refine Tr.w hcx [1000034] _ [] rfl rfl rfl ?_ X_fc28
 refine Tr.seqK fun K1 hK1 => ?_
 refine Tr.w hcx [] _ [] rfl rfl rfl ?_ X_fc28
 refine Tr.blk ?_
 refine Tr.w hcx [1000044] _ [] rfl rfl rfl ?_ X_fc28
 refine Tr.cD rfl (fun hc43 => ?_) (fun hc43 => ?_)
 ·
  have hR := bent_0 (f := f) (z := z) (w := w) (l := l) (S := S) (y := y) (hC.trans hc43)
  have hy := And.intro @e17_5 (And.intro @i_addX @i_subX)
  refine Tr.vD hcx hMO [] _ [] rfl rfl rfl rfl ?_ Y_fc28
  refine hK1 _ ?_
  refine Tr.k [6, 7] ?_
  have hy := True.intro
  refine Tr.w hcx [] _ [] rfl rfl rfl ?_ X_fc28
  refine Tr.f1 hcx 3 (cl eC (l)) ?_
  try simp only [fz_e, fz_s, fz_a]
  refine Tr.f1 hcx 4 (cl dC (S)) ?_
  try simp only [fz_d, fz_t, fz_b]
  exact Tr.ret F_fc28
 refine Tr.w hcx [1000053] _ [] rfl rfl rfl ?_ X_fc28
 refine Tr.cD rfl (fun hc52 => ?_) (fun hc52 => ?_)
 ·
  have hR := bent_1 (f := f) (z := z) (w := w) (l := l) (S := S) (y := y) (hC.trans hc52)
  have hy := And.intro @e17_5 (And.intro @i_addX @i_subX)
  refine Tr.vD hcx hMO [] _ [] rfl rfl rfl rfl ?_ Y_fc28
  refine hK1 _ ?_
  refine Tr.k [6, 7] ?_
  have hy := True.intro
  refine Tr.w hcx [] _ [] rfl rfl rfl ?_ X_fc28
  refine Tr.f1 hcx 3 (cl eC (l)) ?_
  try simp only [fz_e, fz_s, fz_a]
  refine Tr.f1 hcx 4 (cl dC (S)) ?_
  try simp only [fz_d, fz_t, fz_b]
  exact Tr.ret F_fc28
 refine Tr.w hcx [1000062] _ [] rfl rfl rfl ?_ X_fc28
 refine Tr.cD rfl (fun hc61 => ?_) (fun hc61 => ?_)
 ·
  have hR := bent_2 (f := f) (z := z) (w := w) (l := l) (S := S) (y := y) (hC.trans hc61)
  obtain ⟨Q, hQ⟩ : ∃ Q, [y, 4096, 4097, -1] = Q := ⟨_, rfl⟩
  have hQl : Q.length = 4 := by rw [← hQ]; rfl
  have hmk := bent_mk y
  rw [hQ] at hR hmk
  have h4 := around_lt y (m := 4) (by omega)
  have hix := fun (u : TypeDesc) (yy : Nat) (zz : List Value) => ixL_some iC u yy zz (aroundI y 4) Q (by omega)
  rw [hQl] at hix
  have hy := And.intro @e17_4 (And.intro @hmk (And.intro @hQl (And.intro @h4 @hix)))
  refine Tr.v hcx [] _ [] rfl rfl rfl ?_ X_fc28
  refine hK1 _ ?_
  refine Tr.k [6, 7] ?_
  have hy := True.intro
  refine Tr.w hcx [] _ [] rfl rfl rfl ?_ X_fc28
  refine Tr.f1 hcx 3 (cl eC (l)) ?_
  try simp only [fz_e, fz_s, fz_a]
  refine Tr.f1 hcx 4 (cl dC (S)) ?_
  try simp only [fz_d, fz_t, fz_b]
  exact Tr.ret F_fc28
 refine Tr.w hcx [1000071] _ [] rfl rfl rfl ?_ X_fc28
 refine Tr.k [2, 6, 7, 8, 9, 36, 70] ?_
 refine Tr.cD rfl (fun hc70 => ?_) (fun hc70 => ?_)
 ·
  have hR := bent_3 (f := f) (z := z) (w := w) (l := l) (S := S) (y := y) (hC.trans hc70)
  refine Tr.v hcx [] _ [] rfl rfl rfl ?_ X_fc28
  refine hK1 _ ?_
  refine Tr.w hcx [] _ [] rfl rfl rfl ?_ X_fc28
  refine Tr.f1 hcx 3 (cl eC (l)) ?_
  try simp only [fz_e, fz_s, fz_a]
  refine Tr.f1 hcx 4 (cl dC (S)) ?_
  try simp only [fz_d, fz_t, fz_b]
  exact Tr.ret F_fc28
 refine Tr.w hcx [1000075] _ [] rfl rfl rfl ?_ X_fc28
 refine Tr.cD rfl (fun hc74 => ?_) (fun hc74 => ?_)
 ·
  refine Tr.w hcx [] _ [] rfl rfl rfl ?_ X_fc28
  refine Tr.cD rfl (fun hc79 => ?_) (fun hc79 => ?_)
  ·
   have hR := bent_4 (f := f) (z := z) (w := w) (l := l) (S := S) (y := y) hK (hC.trans hc74) hc79
   have hkl : k < l.length := by omega
   have e49 := h49 (aroundI y 40) (by have := around_lt y (m := 40) (by omega); omega)
   have w0 := fun x => wrc_e0 l k x hkl
   have hy := And.intro @e17_40 (And.intro @e49 (And.intro @hkl @w0))
   refine Tr.vD hcx hMO [] _ [] rfl rfl rfl rfl ?_ Y_fc28
   refine hK1 _ ?_
   have hy := True.intro
   refine Tr.w hcx [] _ [] rfl rfl rfl ?_ X_fc28
   refine Tr.f1 hcx 3 (cl eC (l.set k (keyT (aroundI y 40), (gt l k).2))) ?_
   try simp only [fz_e, fz_s, fz_a]
   refine Tr.f1 hcx 4 (cl dC (S)) ?_
   try simp only [fz_d, fz_t, fz_b]
   exact Tr.ret F_fc28
  have hR := bent_n (f := f) (z := z) (w := w) (l := l) (S := S) (y := y) (Or.inl (hC.trans hc74)) hc79
  refine Tr.skip ?_
  refine hK1 _ ?_
  refine Tr.w hcx [] _ [] rfl rfl rfl ?_ X_fc28
  refine Tr.f1 hcx 3 (cl eC (l)) ?_
  try simp only [fz_e, fz_s, fz_a]
  refine Tr.f1 hcx 4 (cl dC (S)) ?_
  try simp only [fz_d, fz_t, fz_b]
  exact Tr.ret F_fc28
 refine Tr.w hcx [1000089] _ [] rfl rfl rfl ?_ X_fc28
 refine Tr.cD rfl (fun hc88 => ?_) (fun hc88 => ?_)
 ·
  refine Tr.w hcx [] _ [] rfl rfl rfl ?_ X_fc28
  refine Tr.cD rfl (fun hc93 => ?_) (fun hc93 => ?_)
  ·
   have hR := bent_5 (f := f) (z := z) (w := w) (l := l) (S := S) (y := y) hK (hC.trans hc88) hc93
   have hkl : k < l.length := by omega
   have w1 := fun x => wrc_e1 l k x hkl
   have x1b := rdc_e1 l k hkl
   have hb2 := (hl2 k hkl).2
   have hy := And.intro @hkl (And.intro @w1 @x1b)
   refine Tr.vD hcx hMO [] _ [] rfl rfl rfl rfl ?_ Y_fc28
   refine hK1 _ ?_
   refine Tr.k [6, 7] ?_
   have hy := True.intro
   refine Tr.w hcx [] _ [] rfl rfl rfl ?_ X_fc28
   refine Tr.f1 hcx 3 (cl eC (l.set k ((gt l k).1, (gt l k).2 ++ [120]))) ?_
   try simp only [fz_e, fz_s, fz_a]
   refine Tr.f1 hcx 4 (cl dC (S)) ?_
   try simp only [fz_d, fz_t, fz_b]
   exact Tr.ret F_fc28
  have hR := bent_n (f := f) (z := z) (w := w) (l := l) (S := S) (y := y) (Or.inr (Or.inl (hC.trans hc88))) hc93
  refine Tr.skip ?_
  refine hK1 _ ?_
  refine Tr.w hcx [] _ [] rfl rfl rfl ?_ X_fc28
  refine Tr.f1 hcx 3 (cl eC (l)) ?_
  try simp only [fz_e, fz_s, fz_a]
  refine Tr.f1 hcx 4 (cl dC (S)) ?_
  try simp only [fz_d, fz_t, fz_b]
  exact Tr.ret F_fc28
 refine Tr.w hcx [1000107] _ [] rfl rfl rfl ?_ X_fc28
 refine Tr.cD rfl (fun hc106 => ?_) (fun hc106 => ?_)
 ·
  refine Tr.w hcx [] _ [] rfl rfl rfl ?_ X_fc28
  refine Tr.cD rfl (fun hc111 => ?_) (fun hc111 => ?_)
  ·
   have hR := bent_6 (f := f) (z := z) (w := w) (l := l) (S := S) (y := y) hK (hC.trans hc106) hc111
   have hkl : k < l.length := by omega
   by_cases q1 : k < 1 ∧ 1 < l.length
   ·
    have q22 := fun cx apps dsts lo id d e h fs K e9 b => stAB_B cx apps dsts lo id d e h fs K eC e9 b k l ⟨by omega, q1.2⟩
    have hy := And.intro @svG_e (And.intro @hkl @q22)
    refine Tr.vDG hcx hMO [121] [115] _ [] rfl rfl rfl rfl ?_ Y_fc28
    refine hK1 _ ?_
    refine Tr.k [6, 7] ?_
    have hy := True.intro
    refine Tr.w hcx [] _ [] rfl rfl rfl ?_ X_fc28
    refine Tr.f1 hcx 5 (cl eC (l.take k ++ l.drop (k + 1))) ?_
    try simp only [fz_z eC hkl]
    refine Tr.f1 hcx 4 (cl dC (S)) ?_
    try simp only [fz_d, fz_t, fz_b]
    exact Tr.ret F_fc28
   have q22 := fun cx apps dsts lo id d e h fs K e9 b => stAB_A cx apps dsts lo id d e h fs K eC e9 b k l ⟨hkl, by omega⟩
   have hy := And.intro @svG_e (And.intro @hkl @q22)
   refine Tr.vDG hcx hMO [121] [115] _ [] rfl rfl rfl rfl ?_ Y_fc28
   refine hK1 _ ?_
   refine Tr.k [6, 7] ?_
   have hy := True.intro
   refine Tr.w hcx [] _ [] rfl rfl rfl ?_ X_fc28
   refine Tr.f1 hcx 3 (cl eC (l.take k ++ l.drop (k + 1) ++ l.drop (l.length - 1))) ?_
   try simp only [fz_r eC hkl]
   refine Tr.f1 hcx 4 (cl dC (S)) ?_
   try simp only [fz_d, fz_t, fz_b]
   exact Tr.ret F_fc28
  have hR := bent_n (f := f) (z := z) (w := w) (l := l) (S := S) (y := y) (Or.inr (Or.inr (hC.trans hc106))) hc111
  refine Tr.skip ?_
  refine hK1 _ ?_
  refine Tr.w hcx [] _ [] rfl rfl rfl ?_ X_fc28
  refine Tr.f1 hcx 3 (cl eC (l)) ?_
  try simp only [fz_e, fz_s, fz_a]
  refine Tr.f1 hcx 4 (cl dC (S)) ?_
  try simp only [fz_d, fz_t, fz_b]
  exact Tr.ret F_fc28
 refine Tr.w hcx [1000124] _ [] rfl rfl rfl ?_ X_fc28
 refine Tr.cD rfl (fun hc123 => ?_) (fun hc123 => ?_)
 ·
  have hR := bent_7 (f := f) (z := z) (w := w) (l := l) (S := S) (y := y) (hC.trans hc123)
  have e49 := h49 (aroundI y 40) (by have := around_lt y (m := 40) (by omega); omega)
  have hy := And.intro @e17_40 @e49
  refine Tr.vDG hcx hMO [132] [126] _ [] rfl rfl rfl rfl ?_ Y_fc28
  refine hK1 _ ?_
  have hy := True.intro
  refine Tr.w hcx [] _ [] rfl rfl rfl ?_ X_fc28
  refine Tr.f1 hcx 5 (cl eC (l ++ [(keyT (aroundI y 40), [])])) ?_
  try simp only [fz_e, fz_s, fz_a]
  refine Tr.f1 hcx 4 (cl dC (S)) ?_
  try simp only [fz_d, fz_t, fz_b]
  exact Tr.ret F_fc28
 refine Tr.w hcx [1000135] _ [] rfl rfl rfl ?_ X_fc28
 refine Tr.cD rfl (fun hc134 => ?_) (fun hc134 => ?_)
 ·
  refine Tr.w hcx [] _ [] rfl rfl rfl ?_ X_fc28
  refine Tr.cD rfl (fun hc139 => ?_) (fun hc139 => ?_)
  ·
   have hR := bent_8 (f := f) (z := z) (w := w) (l := l) (S := S) (y := y) hJ (hC.trans hc134) hc139
   have hjl : j < S.length := by omega
   have e16 := h17 (y.tdiv ((8 : Nat) : Int)) 16 ⟨by have := q_lo hyy; omega, by have := q_lo hyy; omega, by omega, by omega⟩
   obtain ⟨i, hI⟩ : ∃ i, aroundI (y.tdiv ((8 : Nat) : Int)) 16 = i := ⟨_, rfl⟩
   have hi16 : i < 16 := by rw [← hI]; exact around_lt _ (by omega)
   rw [hI] at e16 hR
   have g1 := rdc_dg S j i hjl hi16
   have g2 := fun x => wrc_dg S j i x hjl hi16
   have hy := And.intro @e16 (And.intro @g1 (And.intro @g2 (And.intro @hjl @hi16)))
   refine Tr.vD hcx hMO [] _ [] rfl rfl rfl rfl ?_ Y_fc28
   refine hK1 _ ?_
   refine Tr.k [6, 7] ?_
   have hy := True.intro
   refine Tr.w hcx [] _ [] rfl rfl rfl ?_ X_fc28
   refine Tr.f1 hcx 3 (cl eC (l)) ?_
   try simp only [fz_e, fz_s, fz_a]
   refine Tr.f1 hcx 4 (cl dC (S.set j (setD (gt S j) i (gt (gt S j).1 i ^^^ UInt8.ofNat 1)))) ?_
   try simp only [fz_d, fz_t, fz_b]
   exact Tr.ret F_fc28
  have hR := bent_m (f := f) (z := z) (w := w) (l := l) (S := S) (y := y) (Or.inl (hC.trans hc134)) hc139
  refine Tr.skip ?_
  refine hK1 _ ?_
  refine Tr.w hcx [] _ [] rfl rfl rfl ?_ X_fc28
  refine Tr.f1 hcx 3 (cl eC (l)) ?_
  try simp only [fz_e, fz_s, fz_a]
  refine Tr.f1 hcx 4 (cl dC (S)) ?_
  try simp only [fz_d, fz_t, fz_b]
  exact Tr.ret F_fc28
 refine Tr.w hcx [1000153] _ [] rfl rfl rfl ?_ X_fc28
 refine Tr.cD rfl (fun hc152 => ?_) (fun hc152 => ?_)
 ·
  refine Tr.w hcx [] _ [] rfl rfl rfl ?_ X_fc28
  refine Tr.cD rfl (fun hc157 => ?_) (fun hc157 => ?_)
  ·
   have hR := bent_9 (f := f) (z := z) (w := w) (l := l) (S := S) (y := y) hJ (hC.trans hc152) hc157
   have hjl : j < S.length := by omega
   by_cases q2 : j < 1 ∧ 1 < S.length
   ·
    have q23 := fun cx apps dsts lo id d e h fs K e9 b => stAB_B cx apps dsts lo id d e h fs K dC e9 b j S ⟨by omega, q2.2⟩
    have hy := And.intro @svG_d (And.intro @hjl @q23)
    refine Tr.vDG hcx hMO [167] [161] _ [] rfl rfl rfl rfl ?_ Y_fc28
    refine hK1 _ ?_
    refine Tr.k [6, 7] ?_
    have hy := True.intro
    refine Tr.w hcx [] _ [] rfl rfl rfl ?_ X_fc28
    refine Tr.f1 hcx 3 (cl eC (l)) ?_
    try simp only [fz_e, fz_s, fz_a]
    refine Tr.f1 hcx 5 (cl dC (S.take j ++ S.drop (j + 1))) ?_
    try simp only [fz_z dC hjl]
    exact Tr.ret F_fc28
   have q23 := fun cx apps dsts lo id d e h fs K e9 b => stAB_A cx apps dsts lo id d e h fs K dC e9 b j S ⟨hjl, by omega⟩
   have hy := And.intro @svG_d (And.intro @hjl @q23)
   refine Tr.vDG hcx hMO [167] [161] _ [] rfl rfl rfl rfl ?_ Y_fc28
   refine hK1 _ ?_
   refine Tr.k [6, 7] ?_
   have hy := True.intro
   refine Tr.w hcx [] _ [] rfl rfl rfl ?_ X_fc28
   refine Tr.f1 hcx 3 (cl eC (l)) ?_
   try simp only [fz_e, fz_s, fz_a]
   refine Tr.f1 hcx 4 (cl dC (S.take j ++ S.drop (j + 1) ++ S.drop (S.length - 1))) ?_
   try simp only [fz_r dC hjl]
   exact Tr.ret F_fc28
  have hR := bent_m (f := f) (z := z) (w := w) (l := l) (S := S) (y := y) (Or.inr (hC.trans hc152)) hc157
  refine Tr.skip ?_
  refine hK1 _ ?_
  refine Tr.w hcx [] _ [] rfl rfl rfl ?_ X_fc28
  refine Tr.f1 hcx 3 (cl eC (l)) ?_
  try simp only [fz_e, fz_s, fz_a]
  refine Tr.f1 hcx 4 (cl dC (S)) ?_
  try simp only [fz_d, fz_t, fz_b]
  exact Tr.ret F_fc28
 have hR := bent_10 (f := f) (z := z) (w := w) (l := l) (S := S) (y := y) (by omega)
 refine Tr.vG hcx [41] [38] _ [] rfl rfl rfl ?_ X_fc28
 refine hK1 _ ?_
 refine Tr.w hcx [] _ [] rfl rfl rfl ?_ X_fc28
 refine Tr.f1 hcx 3 (cl eC (l)) ?_
 try simp only [fz_e, fz_s, fz_a]
 refine Tr.f1 hcx 5 (cl dC (S ++ [one16])) ?_
 try simp only [fz_d, fz_t, fz_b]
 exact Tr.ret F_fc28
end Go.Sx
namespace Go.Sx
open Go.RowKit Go.Proofs
def isT (l : List Leaf) (k : List UInt8) : Prop := fromT l k < l.length ∧ (gt l (fromT l k)).1 = k
instance (l : List Leaf) (k : List UInt8) : Decidable (isT l k) := inferInstanceAs (Decidable (_ ∧ _))
theorem LB_nil : LB [] := LB.ofSmall ⟨by simp, fun i hi => by simp at hi⟩
end Go.Sx
