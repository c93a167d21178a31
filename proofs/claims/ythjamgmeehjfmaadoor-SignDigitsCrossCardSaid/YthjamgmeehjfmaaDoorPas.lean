/-
  Maps, functions and pointers in boxes: the simp rules. And what follows.
-/
import Derived.Test.YthjamgmeehjfmaaDoorPam
import Derived.Test.YthjamgmeehjfmaaDoorPar
import Derived.Test.YthjamgmeehjfmaaDoorPap
set_option linter.unusedSimpArgs false
set_option linter.unusedVariables false
namespace Go.Sx
open Go.RowKit
section
variable (a1 b1 : Nat) (z1 : List Value)
theorem ldB_fn (x y : Array TypeId) (v : Bool) (b o : Nat) : ldB false (some ⟨.func x y v, a1, b1, z1⟩) b o = some (.rd b fun cells => rdc cells o) := rfl
theorem ldK_fn (x y : Array TypeId) (v : Bool) (xs : List C) : ldK (some ⟨.func x y v, a1, b1, z1⟩) xs = (rdc xs 0).map vp := rfl
theorem ldK_map (k e : TypeId) (xs : List C) : ldK (some ⟨.map k e, a1, b1, z1⟩) xs = (rdc xs 0).map vp := rfl
end
section
variable (cx : Cx) (apps : List Nat) (dsts : List (Option Nat)) (l : List Oper) (id id' : Nat) (d : Option Nat) (e : List (Nat × C)) (h : Hp) (fs : List FP) (K : List FP → St → Prop) (ty : TypeId) (pos : String) (aft : Array Edge)
theorem run_mkm (t : TypeId) : run cx apps dsts (⟨d, .makeMap t none, ty, pos, aft, none⟩ :: l) id e h fs K = AN (dOK cx.N d) (stV cx apps dsts l id id d e h fs K (mnewPlan cx.P t)) :=
  run_gen cx apps dsts l id id d e h fs K ty pos aft (.makeMap t none) (mnewPlan cx.P t) (by first | rfl | (cases d <;> rfl)) rfl
theorem run_look (t : TypeId) (x y : Operand) (ok : Bool) : run cx apps dsts (⟨d, .lookup t x y ok, ty, pos, aft, none⟩ :: l) id e h fs K = AN (dOK cx.N d) (stV cx apps dsts l id id d e h fs K (mlookPlan cx t (on cx e x) (on cx e y) ok)) :=
  run_gen cx apps dsts l id id d e h fs K ty pos aft (.lookup t x y ok) (mlookPlan cx t (on cx e x) (on cx e y) ok) (by first | rfl | (cases d <;> rfl)) rfl
theorem run_mput (t : TypeId) (m k x : Operand) : run cx apps dsts (⟨d, .mapUpdate t m k x, ty, pos, aft, none⟩ :: l) id e h fs K = AN (dOK cx.N d) (stV cx apps dsts l id id d e h fs K (mputPlan cx t (on cx e m) (on cx e k) (on cx e x))) :=
  run_gen cx apps dsts l id id d e h fs K ty pos aft (.mapUpdate t m k x) (mputPlan cx t (on cx e m) (on cx e k) (on cx e x)) (by first | rfl | (cases d <;> rfl)) rfl
theorem stV_mo (f : Hp → Option (C × Hp)) : stV cx apps dsts l id id' d e h fs K (some (.mo f)) = stC cx apps dsts l id' d e fs K (f h) := by
  unfold stV stC act1D
  simp only [actH]
  cases f h with
  | none => rfl
  | some c => simp only [Option.map_some, killS_none, A_mkE]; rfl
theorem stC_mnew : stC cx apps dsts l id' d e fs K (mnewF h) = run cx apps dsts l id' (mkE d (.mp h.length) e) (h ++ [some (mapC [])]) ((4, 0) :: fs) K := rfl
end
theorem mnew_eq {P : Program} {t kt et : TypeId} (hk : mapKT P t = some (kt, et)) : mnewPlan P t = some (.mo mnewF) := by unfold mnewPlan; rw [hk]; rfl
theorem mlook_eq (cx : Cx) (t : TypeId) (b : Nat) (k : C) (u : Value) (ok : Bool) (hq : valQ k = some u) : mlookPlan cx t (.mp b) k ok = some (.mo (mlookF cx t b u ok)) := by unfold mlookPlan; rw [hq]
theorem mput_eq (cx : Cx) (t : TypeId) (b : Nat) (k x : C) (u : Value) (hq : valQ k = some u) : mputPlan cx t (.mp b) k x = some (.mo (mputF cx t b u x)) := by unfold mputPlan; rw [hq]
/-- Looked up: there, or not. -/
theorem mlookF_T {cx : Cx} {t kt et : TypeId} {b i : Nat} {u : Value} {v : C} {ents : List C} {h : Hp} (hk : mapKT cx.P t = some (kt, et)) (hm : cx.km kt u = true) (hb : h.mp b = some ents) (hf : mfind cx kt u ents 0 = some (some (i, v))) :
    mlookF cx t b u true h = some (.tup [v.noR, .val (.bool true)], h) := by
  unfold mlookF; rw [hk]; simp only [hm, hb, hf, if_true, Option.bind_some]; rfl
theorem mlookF_F {cx : Cx} {t kt et : TypeId} {b : Nat} {u : Value} {z : C} {ents : List C} {h : Hp} (hk : mapKT cx.P t = some (kt, et)) (hm : cx.km kt u = true) (hb : h.mp b = some ents) (hf : mfind cx kt u ents 0 = some none) (hz : zvC cx.P et = some z) :
    mlookF cx t b u true h = some (.tup [z, .val (.bool false)], h) := by
  unfold mlookF; rw [hk]; simp only [hm, hb, hf, if_true, Option.bind_some]
  unfold mlookR; rw [hz]; rfl
theorem mputF_new {cx : Cx} {t kt et : TypeId} {b : Nat} {u : Value} {x : C} {ents : List C} {h : Hp} (hk : mapKT cx.P t = some (kt, et)) (hm : cx.km kt u = true) (hb : h.mp b = some ents) (hf : mfind cx kt u ents 0 = some none) :
    mputF cx t b u x h = some (.val undef, h.set b (some (mapC (ents ++ [.val u, x])))) := by
  unfold mputF; rw [hk]; simp only [hm, hb, hf, if_true, Option.bind_some, Option.map_some]; rfl
attribute [go_sem] ldB_fn ldK_fn ldK_map run_mkm run_look run_mput stV_mo stC_mnew
end Go.Sx
namespace Go.Sx
open Go.RowKit Go.Proofs
theorem td69 : td Tryd.prog 69 = some ⟨.func #[3] #[23] false, 1, 8, [.nilFunc]⟩ := by kernel_rfl
theorem td45 : td Tryd.prog 45 = some ⟨.func #[3, 3] #[23] false, 1, 8, [.nilFunc]⟩ := by kernel_rfl
attribute [go_sem] td69 td45
set_option maxRecDepth 100000 in
set_option maxHeartbeats 8000000 in
theorem fc39 {gl : Nat → C} {M : Nat} {pu : Nat → List C → Option C}  (hcx : CxOK (cxP gl M pu)) (h37 : ∀ (k : Nat) (r : List UInt8), 16 * k + 16 ≤ r.length ∧ r.length ≤ 1000000 → pu 37 [.val (nI k), .kp [sl bC .no r]] = some (.agg (cl bC (at16 r k)))) (h27 : ∀ (i c f t : Nat) (v : List UInt8), v.length = 16 → i < 1000000 ∧ c < 1000000 ∧ f < 1000000 ∧ t < 1000000 → pu 27 [.val (nI i), .val (nI c), .val (nI f), .val (nI t), .agg (cl bC v)] = some (.agg (cl bC (advT i c f v (t - f))))) (c i : Nat) (D : List Nat) (r : List UInt8) (hb : i < 1000000 ∧ c < 68) (hD : D.length = 68) (hD4 : gt D c < 4) (hr : 16 * c + 16 ≤ r.length ∧ r.length ≤ 1000000) : FC Tryd.prog gl 39 [.val (nI c), .kp [.val (nI i)], .kp [sl nC .no D], .kp [.fn 37 [.kp [sl bC .no r]]]] [] (.agg (cl bC (endV i D r c))) [] := by
 replace hcx := hcx.reN (M := 16)
 refine FC.ofA (cx := cxP gl 16 pu) (rs := [.cell 5 23]) rfl Tryd.func39 rfl rfl rfl (by simp only [List.length_cons, List.length_nil]; decide) (by simp only [go_sem]) ?_
 simp only [ini, go_sem]
 have e37 := h37 c r hr
 have ha := at16_len hr.1
 have e27 : pu 27 [.val (nI i), .val (nI c), .val (nI (gt D c)), .val (nI 3), .agg (cl bC (at16 r c))] = some (.agg (cl bC (endV i D r c))) := h27 i c (gt D c) 3 _ ha ⟨hb.1, by omega, by omega, by omega⟩
 have htl := endV_len (i := i) (D := D) hr.1
 refine Tr.seqK fun K1 hK1 => ?_
 refine Tr.rg hcx [] _ [none] rfl rfl rfl ?_
 simp -implicitDefEqProofs (maxSteps := 2000000) (disch := first | omega | (simp only [go_sem, List.length_append, List.length_drop, List.length_take, htl, hD, ha] <;> omega) | decide) only [go_sem, ↓reduceIte, Nat.reduceEqDiff, reduceCtorEq, Nat.reduceLT, Nat.reduceBEq, Nat.reduceAdd, Nat.reduceSub, Nat.reduceMul, Nat.reduceMod, e37, e27]
 refine hK1 _ ?_
 clear hK1 K1
 refine Tr.kp [0, 1, 2, 3, 5] ?_
 simp only [pk_cons, pk_nil, ↓A_cons, ↓reduceIte, Nat.reduceEqDiff]
 refine Tr.seqK fun K2 hK2 => ?_
 refine Tr.rgD hcx hMO [] _ [] rfl rfl rfl rfl ?_
 simp -implicitDefEqProofs (maxSteps := 2000000) (disch := first | omega | (simp only [go_sem, List.length_append, List.length_drop, List.length_take, htl, hD, ha] <;> omega) | decide) only [go_sem, ↓reduceIte, Nat.reduceEqDiff, reduceCtorEq, Nat.reduceLT, Nat.reduceBEq, Nat.reduceAdd, Nat.reduceSub, Nat.reduceMul, Nat.reduceMod, e37, e27]
 with_reducible refine And.intro ?_ ?_
 · exact rfl
 refine hK2 _ ?_
 clear hK2 K2
 refine Tr.kp [5] ?_
 simp only [pk_cons, pk_nil, ↓A_cons, ↓reduceIte, Nat.reduceEqDiff]
 refine Tr.ret ?_
 simp -implicitDefEqProofs (disch := first | omega | (simp only [go_sem, List.length_append, List.length_drop, List.length_take, htl, hD, ha] <;> omega) | decide) only [go_sem, ↓reduceIte, Nat.reduceEqDiff, reduceCtorEq]
 all_goals (rfl)
end Go.Sx
namespace Go.Sx
open Go.RowKit Go.Proofs
theorem td73 : td Tryd.prog 73 = some ⟨.map 28 23, 1, 8, [.map none]⟩ := by kernel_rfl
theorem mk73 : mapKT Tryd.prog 73 = some (28, 23) := by unfold mapKT; rw [td73]
theorem zv23 : zvC Tryd.prog 23 = some (.agg (cl bC (List.replicate 16 0))) := by kernel_rfl
theorem mnew73 : mnewPlan Tryd.prog 73 = some (.mo mnewF) := mnew_eq mk73
theorem oc_map (m : Option Nat) : (Value.map m).oneCell' = true := rfl
theorem oc_nf : (Value.nilFunc).oneCell' = true := rfl
attribute [go_sem] td73 mnew73 oc_map oc_nf
end Go.Sx
namespace Go.Sx
open Go.RowKit
/-- Frozen through and through. -/
def frzD : Nat → Hp → C → C
  | 0, _, c => c
  | n + 1, h, .bp b off => (match h.at b with
    | some cells => .kp ((cells.drop off).map fun x => frzD n h x.noR)
    | none => .bp b off)
  | n + 1, h, .sv b off m => (match h.at b with
    | some cells => if off + m ≤ cells.length then .sl .no m (((cells.drop off).take m).map fun x => frzD n h x.noR) else .sv b off m
    | none => .sv b off m)
  | n + 1, h, .fn f xs => .fn f (xs.map fun x => frzD n h x)
  | _ + 1, _, c => c
theorem cellsD {G : Gh} {h : Hp} {w : World} (W : WorldOK G h w) (n : Nat) (ih : ∀ (c : C) (v : Value), Rep G c v → Rep (boxK G w) (frzD n h c) v) {b : Nat} {cells : List C} {blk : Nat} (hb : h.at b = some cells) (hμ : G.μ b = some blk) (off m : Nat) (hle : off + m ≤ cells.length) : RepK (boxK G w) blk off (((cells.drop off).take m).map fun x => frzD n h x.noR) := by
  obtain ⟨cs, e, ⟨fr, q2, hfr⟩, q0, q3, q4⟩ := W.bx hb hμ
  refine RepK.of_get fun i x hx => ?_
  rw [List.getElem?_map, List.getElem?_take] at hx
  split at hx
  · rw [List.getElem?_drop] at hx
    cases hc : cells[off + i]? with
    | none => rw [hc] at hx; cases hx
    | some y =>
      rw [hc] at hx
      simp only [Option.map_some, Option.some.injEq] at hx
      subst hx
      obtain ⟨u, hu, hr⟩ := q3.get (off + i) y hc
      have hu' := hu
      rw [List.getElem?_take] at hu'
      split at hu'
      rotate_left
      · cases hu'
      refine ⟨u, ?_, q4 u (List.mem_of_getElem? hu'), ih _ _ hr.noR⟩
      have hK : G.K blk (off + i) = none := (W.sep b blk hμ).1 _
      simp only [boxK, hK]
      rw [if_pos ⟨b, hμ⟩]
      exact cell_of q2 _ _ hu'
  · cases hx
theorem repL_map {G G' : Gh} {g : C → C} (ih : ∀ (c : C) (v : Value), Rep G c v → Rep G' (g c) v) : ∀ (az : List C) (vs : List Value), RepL G az vs → RepL G' (az.map g) vs
  | [], vs, r => by simpa [RepL] using r
  | c :: l, vs, r => by
    rw [List.map_cons]
    simp only [RepL] at r ⊢
    obtain ⟨v, vs', h1, h2, h3⟩ := r
    exact ⟨v, vs', h1, ih c v h2, repL_map ih l vs' h3⟩
theorem frzD_rep {G : Gh} {h : Hp} {w : World} (W : WorldOK G h w) : ∀ (n : Nat) (c : C) (v : Value), Rep G c v → Rep (boxK G w) (frzD n h c) v
  | 0, c, v, r => r.mono (boxK_le G w)
  | n + 1, c, v, r => by
    have ih := frzD_rep W n
    cases c with
    | sv b off m =>
      have r0 := r
      simp only [Rep] at r
      obtain ⟨a, cap, h1, h2, h3, h4⟩ := r
      cases hb : h.at b with
      | none => simp only [frzD, hb]; exact r0.mono (boxK_le G w)
      | some cells =>
        simp only [frzD, hb]
        split
        · rename_i hle
          simp only [Rep]
          refine ⟨a, cap, h1, h2, h3, by simp, ?_⟩
          by_cases hn : m = 0
          · left; subst hn; simp
          · right
            obtain ⟨blk, q1, q2⟩ := h4 hn
            exact ⟨blk, off, q2, cellsD W n ih hb q1 off m hle⟩
        · exact r0.mono (boxK_le G w)
    | bp b off =>
      have r0 := r
      simp only [Rep] at r
      obtain ⟨blk, h1, h2⟩ := r
      cases hb : h.at b with
      | none => simp only [frzD, hb]; exact r0.mono (boxK_le G w)
      | some cells =>
        simp only [frzD, hb, Rep]
        refine ⟨blk, off, h2, ?_⟩
        by_cases hle : off ≤ cells.length
        · have := cellsD W n ih hb h1 off (cells.length - off) (by omega)
          rwa [List.take_of_length_le (by simp)] at this
        · rw [List.drop_of_length_le (by omega)]; simp [RepK]
    | fn f xs =>
      simp only [Rep, frzD] at r ⊢
      obtain ⟨vs, h1, h2⟩ := r
      exact ⟨vs, h1, repL_map ih xs _ h2⟩
    | _ => exact r.mono (boxK_le G w)
theorem FC.freezeR {P : Program} {gl : Nat → C} {f : Nat} {args args' : List C} {c : C} {h : Hp} (hre : ∀ (G : Gh) (w : World) (vs : List Value), WorldOK G h w → RepL G args vs → RepL (boxK G w) args' vs) (hf : FC P gl f args' [] c []) (ha : noRefs 0 args' = true) (hg : ∀ g, noRef 0 (gl g) = true) (hfl : flat c = true) : FC P gl f args h c h := by
  obtain ⟨he, hf⟩ := hf
  refine ⟨he, fun G w vs W hTg hgl hr => ?_⟩
  have hn : ∀ b, Hp.at [] b = none := fun b => by simp [Hp.at]
  let G1 : Gh := { K := (boxK G w).K, μ := fun _ => none, T := fun _ => none }
  have le1 : (cutμ (boxK G w) 0).Le G1 := ⟨fun _ _ _ x => x, fun b k x => by simp [cutμ] at x, fun b k x => by simp [cutμ] at x⟩
  have known1 : ∀ blk off u, G1.K blk off = some u → w.cell? ⟨blk, off, none⟩ = some u := fun blk off u x => by
    have x' : (boxK G w).K blk off = some u := x
    simp only [boxK] at x'
    split at x'
    · rename_i u' hu; cases x'; exact W.known _ _ _ hu
    · split at x'
      · exact x'
      · cases x'
  refine Calls.mono (hf G1 w vs ⟨known1, (fun b cells x => by rw [hn] at x; cases x), (fun b blk x => by cases x), (fun b b' c c' blk _ _ x => by cases x), (fun b blk x => by cases x), (fun g p x => by cases x), (fun b cells off s n xs blk v x => by rw [hn] at x; cases x), (fun b z x => by cases x), (fun b l x => by simp [Hp.mp] at x), (fun b b' l l' blk x => by simp [Hp.mp] at x)⟩
    (fun g p x => by cases x) (fun g => (noRef_rep _ _ (hg g) ((hgl g).mono (boxK_le G w))).mono le1) ((noRef_repL _ _ ha (hre G w _ W hr)).mono le1)) ?_
  rintro e w' ⟨v, G2, rfl, rv, ro, W2, F⟩
  have old := fun g (hg : g < w.heap.size) => F.old g hg rfl (fun b x => by cases x)
  have hμlt : ∀ b blk, G.μ b = some blk → blk < w.heap.size := fun b blk x => by
    exact (W.dom b blk x).2
  classical
  let G3 : Gh := { K := fun blk o => if ∃ b, G.μ b = some blk then none else G2.K blk o, μ := G.μ, T := fun g => if g < w.heap.size then G.T g else none, σ := G.σ }
  have le13 : G.Le G3 := ⟨fun b o u x => by
    have hb : ¬ ∃ k, G.μ k = some b := fun ⟨k, hk⟩ => by rw [(W.sep k b hk).1 o] at x; cases x
    show (if ∃ k, G.μ k = some b then none else G2.K b o) = some u
    rw [if_neg hb]
    exact F.le.K b o u ((boxK_le G w).K b o u x), fun _ _ x => x, fun _ _ x => x⟩
  refine ⟨v, G3, rfl, flat_rep c v hfl rv, fun s n xs e => ?_, ⟨fun blk off u x => ?_, fun b cells hc => ?_, fun b blk x => ⟨(W.dom b blk x).1, Nat.lt_of_lt_of_le (W.dom b blk x).2 F.size⟩, W.inj, fun b blk x => ?_, fun g p x => ?_, fun b cells off s n xs blk v hc hx hm hv => ?_, fun b z hz => ?_, fun b l hb => (by obtain ⟨blk, es, clk, q1, q2, q3⟩ := W.mpo b l hb; exact ⟨blk, es, clk, q1, (old blk (hμlt b blk q1)).1.trans q2, q3.mono le13⟩), W.mpi⟩, F.os, F.tape, F.output, F.size, le13, fun g hg ht hm => ?_⟩
  · rw [e] at hfl; cases hfl
  · have x' : (if ∃ k, G.μ k = some blk then none else G2.K blk off) = some u := x
    split at x'
    · cases x'
    · exact W2.known _ _ _ x'
  · rcases W.box b cells hc with hE | ⟨blk, cs, e, q1, q2, q0, q3, q4⟩
    · exact .inl hE
    · exact .inr ⟨blk, cs, e, q1, by rw [(old blk (hμlt b blk q1)).1]; exact q2, q0, q3.mono le13, q4⟩
  · have hlt := hμlt b blk x
    refine ⟨fun o => ?_, ?_⟩
    · show (if ∃ k, G.μ k = some blk then none else G2.K blk o) = none
      rw [if_pos ⟨b, x⟩]
    · show (if blk < w.heap.size then G.T blk else none) = none
      rw [if_pos hlt]
      exact (W.sep b blk x).2
  · have x' : (if g < w.heap.size then G.T g else none) = some p := x
    split at x'
    · exact Nat.lt_of_lt_of_le (W.tlt g p x') F.size
    · cases x'
  · have hlt := hμlt b blk hm
    have hv' : w.cell? ⟨blk, off, none⟩ = some v := by
      rw [← hv]
      unfold World.cell?
      rw [(old blk hlt).1]
    rcases W.own b cells off s n xs blk v hc hx hm hv' with O | ⟨g, cap, cur, e, a1, a2, a3, a4, a5, a6⟩
    · exact .inl O
    · have hlt := W.tlt g _ a2
      refine .inr ⟨g, cap, cur, e, a1, ?_, (old g hlt).1.trans a3, a4, fun o ho => ?_, a6⟩
      · show (if g < w.heap.size then G.T g else none) = _
        rw [if_pos hlt]; exact a2
      · show (if ∃ k, G.μ k = some g then none else G2.K g o) = none
        have hng : ¬ ∃ k, G.μ k = some g := fun ⟨k, hk⟩ => a6 k hk
        rw [if_neg hng]
        have h1 : (boxK G w).K g o = none := by
          simp only [boxK, a5 o ho]
          rw [if_neg hng]
        exact ((old g hlt).2.2.2 o).trans h1
  · obtain ⟨blk, cs, e, fr, q1, q2, q3⟩ := W.siz b z hz
    exact ⟨blk, cs, e, fr, q1, (old blk (hμlt b blk q1)).1.trans q2, q3⟩
  · obtain ⟨b1, b2, b3, b4⟩ := old g hg
    refine ⟨b1, ?_, hm, fun o => ?_⟩
    · show (if g < w.heap.size then G.T g else none) = none
      rw [if_pos hg]; exact ht
    · have hng : ¬ ∃ k, G.μ k = some g := fun ⟨k, hk⟩ => hm k hk
      show (if ∃ k, G.μ k = some g then none else G2.K g o) = _
      rw [if_neg hng]
      refine (b4 o).trans ?_
      show (boxK G w).K g o = _
      simp only [boxK]
      cases G.K g o with
      | some u => rfl
      | none => simp only []; rw [if_neg hng]
/-- Calls that read boxes and change none, from calls that compute alone. -/
def frzHpD (n : Nat) (pu : Nat → List C → Option C) : Nat → List C → Hp → Option (C × Hp) := fun g xs h => frhQ (noRefs 0 (xs.map fun x => frzD n h x)) (pu g (xs.map fun x => frzD n h x)) h
theorem frzHpD_eq (n : Nat) (pu : Nat → List C → Option C) (g : Nat) (xs : List C) (h : Hp) : frzHpD n pu g xs h = frhQ (noRefs 0 (xs.map fun x => frzD n h x)) (pu g (xs.map fun x => frzD n h x)) h := rfl
theorem CxOK.frzHpD {P : Program} {gl : Nat → C} {pu : Nat → List C → Option C} {hp : Nat → List C → Hp → Option (C × Hp)} {N M : Nat} {gr gr' : Nat → Bool} {km : TypeId → Value → Bool} (n : Nat) (hcx : CxOK ⟨P, N, gl, pu, hp, gr, km⟩) : CxOK ⟨P, M, gl, pu, Sx.frzHpD n pu, gr', km⟩ := by
  refine ⟨hcx.glo, hcx.pu, fun g xs h c h' e => ?_, hcx.km⟩
  have e : frhQ (noRefs 0 (xs.map fun x => frzD n h x)) (pu g (xs.map fun x => frzD n h x)) h = some (c, h') := e
  unfold frhQ at e
  split at e
  · rename_i hn
    split at e
    · rename_i c2 hp2
      unfold frhR at e
      split at e
      · rename_i hfl
        cases e
        exact FC.freezeR (fun G w vs W r => repL_map (frzD_rep W n) xs vs r) (hcx.pu _ _ _ hp2 []) hn hcx.glo hfl
      · cases e
    · cases e
  · cases e
def fdB (n : Nat) (h : Hp) (b off : Nat) : Option (List C) → C
  | some cells => .kp ((cells.drop off).map fun x => frzD n h x.noR)
  | none => .bp b off
theorem fd_val (n : Nat) (h : Hp) (v : Value) : frzD n h (.val v) = .val v := by cases n <;> rfl
theorem fd_tsl {α : Type} (f : α → List C) (n : Nat) (h : Hp) (r : Rt) (l : List α) : frzD n h (sl f r l) = sl f r l := by cases n <;> rfl
theorem fd_fn (n : Nat) (h : Hp) (f : Nat) (xs : List C) : frzD (n + 1) h (.fn f xs) = .fn f (xs.map fun x => frzD n h x) := rfl
theorem fd_bp (n : Nat) (h : Hp) (b off : Nat) : frzD (n + 1) h (.bp b off) = fdB n h b off (h.at b) := by
  cases e : h.at b <;> simp only [frzD, fdB, e]
theorem fdB_some (n : Nat) (h : Hp) (b off : Nat) (cells : List C) : fdB n h b off (some cells) = .kp ((cells.drop off).map fun x => frzD n h x.noR) := rfl
end Go.Sx
namespace Go.Sx
open Go.RowKit Go.Proofs
noncomputable def cxD (gl : Nat → C) (M : Nat) (pu : Nat → List C → Option C) : Cx := ⟨Tryd.prog, M, gl, pu, Sx.frzHpD 4 pu, fun _ => false, fun _ _ => false⟩
theorem hMOD {gl : Nat → C} {M : Nat} {pu : Nat → List C → Option C} : (cxD gl M pu).P.follows .mixedOrders = true := hMO (gl := gl) (M := M) (pu := pu)
theorem CxOK.toD {gl : Nat → C} {M N : Nat} {pu : Nat → List C → Option C} (h : CxOK (cxP gl M pu)) : CxOK (cxD gl N pu) := CxOK.frzHpD 4 h
attribute [go_sem] frzHpD_eq frhQ_false frhQ_some frhR_true fd_val fd_tsl fd_fn fd_bp fdB_some
theorem i_shr (P : Program) (t : TypeId) (x n : Nat) (h : x < 9223372036854775808) (hn : n ≤ 64) : binPlan P .shr t (.val (nI x)) (.val (nI n)) = some (vp (.val (nI (x / 2 ^ n)))) := by
  rw [nI, nI, bin_int]
  have e : sbin .shr (.int .i64 (x : Int)) (.int .i64 (n : Int)) = some (.int .i64 ((x : Int).fdiv (2 ^ (min n 64)))) := by
    show (if (n : Int) < 0 then none else _) = _
    rw [if_neg (by omega)]
    rfl
  rw [e, nI]
  show some (vp (.val _)) = _
  congr 4
  rw [Nat.min_eq_left hn, Int.fdiv_eq_ediv_of_nonneg _ (Int.le_of_lt (Int.pow_pos (by decide)))]
  have ep : (2 : Int) ^ n = ((2 ^ n : Nat) : Int) := by rw [Int.natCast_pow]; rfl
  rw [ep, ← Int.natCast_ediv]
theorem i_and1 (P : Program) (t : TypeId) (x : Nat) (h : x < 9223372036854775808) : binPlan P .and t (.val (nI x)) (.val (nI 1)) = some (vp (.val (nI (x % 2)))) := by
  simp only [nI, bin_int]
  show some (vp (.val (.int .i64 (IntKind.wrap .i64 ((BitVec.ofInt 64 (x : Int) &&& BitVec.ofInt 64 ((1 : Nat) : Int)).toNat : Int))))) = _
  rw [BitVec.ofInt_natCast, BitVec.ofInt_natCast, BitVec.toNat_and, BitVec.toNat_ofNat, BitVec.toNat_ofNat, Nat.mod_eq_of_lt (show x < 2 ^ 64 by omega)]
  rw [show 1 % 2 ^ 64 = 1 from rfl, Nat.and_one_is_mod, wrap_i64 _ (by omega) (by omega)]
theorem fdB_none (n : Nat) (h : Hp) (b off : Nat) : fdB n h b off none = .bp b off := rfl
attribute [go_sem] fdB_none
end Go.Sx
namespace Go.Sx
open Go.RowKit Go.Proofs
theorem digT_lo (d : List UInt8) {i : Nat} (h : i < 64) : gt (digT d) i = dg d i := by
  unfold digT
  rw [gt_left _ _ _ (by rw [dgs_len]; exact h)]
  simp [dgs, gt, List.getD, List.getElem?_eq_getElem, h]
theorem digT_hi (d : List UInt8) (j : Nat) : gt (digT d) (64 + j) = gt (tl (dsum d 64) 4) j := by
  unfold digT
  simp only [gt, List.getD]
  rw [List.getElem?_append_right (by rw [dgs_len]; omega), dgs_len, Nat.add_sub_cancel_left]
theorem byte_dg (d : List UInt8) (k : Nat) : (gt d k).toNat = 64 * dg d (4 * k) + 16 * dg d (4 * k + 1) + 4 * dg d (4 * k + 2) + dg d (4 * k + 3) := by
  have hx : (gt d k).toNat < 256 := (gt d k).toNat_lt
  unfold dg
  rw [show (4 * k) / 4 = k by omega, show (4 * k + 1) / 4 = k by omega, show (4 * k + 2) / 4 = k by omega, show (4 * k + 3) / 4 = k by omega,
    show (4 * k) % 4 = 0 by omega, show (4 * k + 1) % 4 = 1 by omega, show (4 * k + 2) % 4 = 2 by omega, show (4 * k + 3) % 4 = 3 by omega]
  simp only [Nat.sub_zero, Nat.sub_self, Nat.pow_zero, Nat.div_one, show (4 : Nat) ^ 3 = 64 from rfl, show (4 : Nat) ^ (3 - 1) = 16 from rfl, show (4 : Nat) ^ (3 - 2) = 4 from rfl]
  omega
theorem dg_inj {a b : List UInt8} (ha : a.length = 16) (hb : b.length = 16) (h : ∀ i, i < 64 → dg a i = dg b i) : a = b := by
  refine ext_gt a b (by omega) fun k hk => ?_
  have e : (gt a k).toNat = (gt b k).toNat := by
    rw [byte_dg, byte_dg, h _ (by omega), h _ (by omega), h _ (by omega), h _ (by omega)]
  exact UInt8.toNat_inj.1 e
theorem dsum_lt {a b : List UInt8} : ∀ n, (∀ i, i < n → dg b i ≤ dg a i) → dsum a n ≤ dsum b n ∧ ((∃ i, i < n ∧ dg b i < dg a i) → dsum a n < dsum b n)
  | 0, _ => ⟨Nat.le_refl _, fun ⟨i, h, _⟩ => absurd h (Nat.not_lt_zero i)⟩
  | n + 1, h => by
    obtain ⟨h1, h2⟩ := dsum_lt n (fun i hi => h i (by omega))
    have h3 := h n (by omega)
    have ha := dg_lt a n
    have hb := dg_lt b n
    refine ⟨by unfold dsum; omega, ?_⟩
    rintro ⟨i, hi, hlt⟩
    by_cases e : i = n
    · subst e; unfold dsum; omega
    · have := h2 ⟨i, by omega, hlt⟩; unfold dsum; omega
theorem tl_val {s : Nat} (h : s < 256) : s = 64 * gt (tl s 4) 0 + 16 * gt (tl s 4) 1 + 4 * gt (tl s 4) 2 + gt (tl s 4) 3 := by
  show s = 64 * (s / 4 ^ 3 % 4) + 16 * (s / 4 ^ 2 % 4) + 4 * (s / 4 ^ 1 % 4) + s / 4 ^ 0 % 4
  simp only [Nat.pow_zero, Nat.div_one, show (4 : Nat) ^ 3 = 64 from rfl, show (4 : Nat) ^ 2 = 16 from rfl, show (4 : Nat) ^ 1 = 4 from rfl]
  omega
/-- Digests whose digits are never less are the same. -/
theorem dig_dom {a b : List UInt8} (ha : a.length = 16) (hb : b.length = 16) (h : ∀ i, i < 68 → gt (digT b) i ≤ gt (digT a) i) : a = b := by
  have h64 : ∀ i, i < 64 → dg b i ≤ dg a i := fun i hi => by
    have := h i (by omega); rwa [digT_lo b hi, digT_lo a hi] at this
  obtain ⟨h1, h2⟩ := dsum_lt 64 h64
  refine dg_inj ha hb fun i hi => ?_
  rcases Nat.lt_or_ge (dg b i) (dg a i) with hlt | hge
  · exfalso
    have h3 := h2 ⟨i, hi, hlt⟩
    have sa := dsum_le a 64
    have sb := dsum_le b 64
    have va := tl_val (s := dsum a 64) (by omega)
    have vb := tl_val (s := dsum b 64) (by omega)
    have g0 := h 64 (by omega)
    have g1 := h 65 (by omega)
    have g2 := h 66 (by omega)
    have g3 := h 67 (by omega)
    rw [show (64 : Nat) = 64 + 0 from rfl, digT_hi, digT_hi] at g0
    rw [show (65 : Nat) = 64 + 1 from rfl, digT_hi, digT_hi] at g1
    rw [show (66 : Nat) = 64 + 2 from rfl, digT_hi, digT_hi] at g2
    rw [show (67 : Nat) = 64 + 3 from rfl, digT_hi, digT_hi] at g3
    omega
  · exact Nat.le_antisymm hge (h64 i hi)
/-- Some number below is less. -/
def anyLt (x y : List Nat) (n : Nat) : Bool := (List.range n).any fun i => decide (gt x i < gt y i)
theorem anyLt_S (x y : List Nat) (n : Nat) : anyLt x y (n + 1) = (anyLt x y n || decide (gt x n < gt y n)) := by
  unfold anyLt; rw [List.range_succ, List.any_append]; simp
theorem dig_cross {a b : List UInt8} (ha : a.length = 16) (hb : b.length = 16) (h : a ≠ b) : anyLt (digT a) (digT b) 68 = true ∧ anyLt (digT b) (digT a) 68 = true := by
  have key : ∀ {x y : List UInt8}, x.length = 16 → y.length = 16 → x ≠ y → anyLt (digT x) (digT y) 68 = true := fun {x y} hx hy hn => by
    cases e : anyLt (digT x) (digT y) 68 with
    | true => rfl
    | false =>
      exfalso
      refine hn (dig_dom hx hy fun i hi => ?_)
      unfold anyLt at e
      rw [List.any_eq_false] at e
      have := e i (List.mem_range.2 hi)
      simp only [decide_eq_true_eq, Nat.not_lt] at this
      exact this
  exact ⟨key ha hb h, key hb ha (Ne.symm h)⟩
end Go.Sx
namespace Go.Sx
open Go.RowKit Go.Proofs
end Go.Sx
namespace Go.Sx
open Go.RowKit Go.Proofs
set_option maxRecDepth 100000 in
set_option maxHeartbeats 8000000 in
theorem fc7 {gl : Nat → C} {M : Nat} {pu : Nat → List C → Option C}  (hcx : CxOK (cxP gl M pu))  (h9 : pu 9 [] = some (.val (.bool true))) (h10 : ∀ d : List UInt8, d.length = 16 → pu 10 [.agg (cl bC d)] = some (sl nC .no (digT d))) (p q : List UInt8) (hp : p.length = 16) (hq : q.length = 16) : FC Tryd.prog gl 7 [.agg (cl bC p), .agg (cl bC q)] [] (.val (.bool true)) [] := by
 replace hcx := hcx.reN (M := 64)
 refine FC.ofA (cx := cxP gl 64 pu) (rs := [.tmp 4]) rfl Tryd.func7 rfl rfl rfl (by simp only [List.length_cons, List.length_nil]; decide) (by simp only [go_sem]) ?_
 simp only [ini, go_sem]
 have e1 := h10 p hp
 have e2 := h10 q hq
 have hX := digT_len p
 have hY := digT_len q
 have hcr := fun h => dig_cross hp hq h
 generalize digT p = X at *
 generalize digT q = Y at *
 refine Tr.seqK fun K1 hK1 => ?_
 refine Tr.rg hcx [] _ [none, none] rfl rfl rfl ?_
 simp -implicitDefEqProofs (maxSteps := 2000000) (disch := first | omega | (simp only [go_sem, List.length_append, List.length_drop, List.length_take, hp, hq, hX, hY] <;> omega) | decide) only [go_sem, ↓reduceIte, Nat.reduceEqDiff, reduceCtorEq, Nat.reduceLT, Nat.reduceBEq, Nat.reduceAdd, Nat.reduceSub, Nat.reduceMul, Nat.reduceMod]
 refine hK1 _ ?_
 clear hK1 K1
 refine Tr.kp [2, 3] ?_
 simp only [pk_cons, pk_nil, ↓A_cons, ↓reduceIte, Nat.reduceEqDiff]
 refine Tr.seqK fun K2 hK2 => ?_
 refine Tr.rg hcx [1000011] _ [] rfl rfl rfl ?_
 simp -implicitDefEqProofs (maxSteps := 2000000) (disch := first | omega | (simp only [go_sem, List.length_append, List.length_drop, List.length_take, hp, hq, hX, hY] <;> omega) | decide) only [go_sem, ↓reduceIte, Nat.reduceEqDiff, reduceCtorEq, Nat.reduceLT, Nat.reduceBEq, Nat.reduceAdd, Nat.reduceSub, Nat.reduceMul, Nat.reduceMod, h9]
 refine hK2 _ ?_
 clear hK2 K2
 refine Tr.kp [2, 3, 5] ?_
 simp only [pk_cons, pk_nil, ↓A_cons, ↓reduceIte, Nat.reduceEqDiff]
 refine Tr.seqK fun K3 hK3 => ?_
 refine Tr.rg hcx [1000013] _ [] rfl rfl rfl ?_
 simp -implicitDefEqProofs (maxSteps := 2000000) (disch := first | omega | (simp only [go_sem, List.length_append, List.length_drop, List.length_take, hp, hq, hX, hY] <;> omega) | decide) only [go_sem, ↓reduceIte, Nat.reduceEqDiff, reduceCtorEq, Nat.reduceLT, Nat.reduceBEq, Nat.reduceAdd, Nat.reduceSub, Nat.reduceMul, Nat.reduceMod, e1]
 refine hK3 _ ?_
 clear hK3 K3
 refine Tr.kp [2, 3, 5, 6] ?_
 simp only [pk_cons, pk_nil, ↓A_cons, ↓reduceIte, Nat.reduceEqDiff]
 refine Tr.seqK fun K4 hK4 => ?_
 refine Tr.rg hcx [1000015] _ [] rfl rfl rfl ?_
 simp -implicitDefEqProofs (maxSteps := 2000000) (disch := first | omega | (simp only [go_sem, List.length_append, List.length_drop, List.length_take, hp, hq, hX, hY] <;> omega) | decide) only [go_sem, ↓reduceIte, Nat.reduceEqDiff, reduceCtorEq, Nat.reduceLT, Nat.reduceBEq, Nat.reduceAdd, Nat.reduceSub, Nat.reduceMul, Nat.reduceMod, e2]
 refine hK4 _ ?_
 clear hK4 K4
 refine Tr.kp [2, 3, 5, 6, 7] ?_
 simp only [pk_cons, pk_nil, ↓A_cons, ↓reduceIte, Nat.reduceEqDiff]
 refine Tr.seqK fun K5 hK5 => ?_
 refine Tr.seqK fun K6 hK6 => ?_
 refine Tr.rg hcx [] [some 16, some 17, some 18, some 19, some 20, some 21, some 22, some 23] [] rfl rfl rfl ?_
 simp -implicitDefEqProofs (maxSteps := 2000000) (disch := first | omega | (simp only [go_sem, List.length_append, List.length_drop, List.length_take, hp, hq, hX, hY] <;> omega) | decide) only [go_sem, ↓reduceIte, Nat.reduceEqDiff, reduceCtorEq, Nat.reduceLT, Nat.reduceBEq, Nat.reduceAdd, Nat.reduceSub, Nat.reduceMul, Nat.reduceMod, hX, hY]
 refine hK6 _ ?_
 clear hK6 K6
 refine Tr.kp [2, 3, 5, 6, 7, 23] ?_
 simp only [pk_cons, pk_nil, ↓A_cons, ↓reduceIte, Nat.reduceEqDiff]
 refine Tr.condG fun KT KF hT hF => ?_
 simp only [ev_tmp, ev_const, ↓A_cons, ↓reduceIte, Nat.reduceEqDiff, reduceCtorEq, condG_bool, GB_true, GB_false, decide_eq_true_eq]
 refine hF ?_
 clear hT hF KT KF
 refine Tr.skip ?_
 refine hK5 _ ?_
 clear hK5 K5
 refine Tr.kp [2, 3, 5, 6, 7] ?_
 simp only [pk_cons, pk_nil, ↓A_cons, ↓reduceIte, Nat.reduceEqDiff]
 refine Tr.seqK fun K7 hK7 => ?_
 refine Tr.rg hcx [] _ [] rfl rfl rfl ?_
 simp -implicitDefEqProofs (maxSteps := 2000000) (disch := first | omega | (simp only [go_sem, List.length_append, List.length_drop, List.length_take, hp, hq, hX, hY] <;> omega) | decide) only [go_sem, ↓reduceIte, Nat.reduceEqDiff, reduceCtorEq, Nat.reduceLT, Nat.reduceBEq, Nat.reduceAdd, Nat.reduceSub, Nat.reduceMul, Nat.reduceMod]
 refine hK7 _ ?_
 clear hK7 K7
 refine Tr.kp [2, 3, 5, 6, 7, 8] ?_
 simp only [pk_cons, pk_nil, ↓A_cons, ↓reduceIte, Nat.reduceEqDiff]
 refine Tr.seqK fun K8 hK8 => ?_
 refine Tr.rg hcx [] _ [] rfl rfl rfl ?_
 simp -implicitDefEqProofs (maxSteps := 2000000) (disch := first | omega | (simp only [go_sem, List.length_append, List.length_drop, List.length_take, hp, hq, hX, hY] <;> omega) | decide) only [go_sem, ↓reduceIte, Nat.reduceEqDiff, reduceCtorEq, Nat.reduceLT, Nat.reduceBEq, Nat.reduceAdd, Nat.reduceSub, Nat.reduceMul, Nat.reduceMod]
 refine hK8 _ ?_
 clear hK8 K8
 refine Tr.kp [2, 3, 5, 6, 7, 8, 9] ?_
 simp only [pk_cons, pk_nil, ↓A_cons, ↓reduceIte, Nat.reduceEqDiff]
 refine Tr.seqK fun K9 hK9 => ?_
 refine Tr.seqK fun K10 hK10 => ?_
 refine Tr.rg hcx [] _ [] rfl rfl rfl ?_
 simp -implicitDefEqProofs (maxSteps := 2000000) (disch := first | omega | (simp only [go_sem, List.length_append, List.length_drop, List.length_take, hp, hq, hX, hY] <;> omega) | decide) only [go_sem, ↓reduceIte, Nat.reduceEqDiff, reduceCtorEq, Nat.reduceLT, Nat.reduceBEq, Nat.reduceAdd, Nat.reduceSub, Nat.reduceMul, Nat.reduceMod]
 refine hK10 _ ?_
 clear hK10 K10
 refine Tr.kp [2, 3, 5, 6, 7, 8, 9, 10] ?_
 simp only [pk_cons, pk_nil, ↓A_cons, ↓reduceIte, Nat.reduceEqDiff]
 refine Tr.blk ?_
 refine Tr.loopI (α := Nat) (fun a => [(2, ?v2_24), (3, ?v3_24), (5, ?v5_24), (6, ?v6_24), (7, ?v7_24), (8, .val (.bool (anyLt X Y a))), (9, .val (.bool (anyLt Y X a))), (10, .val (nI a))]) (fun a => [some (cl bC p), some (cl bC q)]) (fun a => a ≤ 68) (fun a => 68 - a) (0) (Nat.zero_le _) ?le_24 ?hh_24 ?bd_24
 case hh_24 => exact rfl
 case le_24 => (simp only [Le_nil, Le_cons, ↓A_cons, ↓reduceIte, Nat.reduceEqDiff, reduceCtorEq, CLe_refl, CLe_top, CLe_full, CLe_nil, CLe_own, and_true, true_and]; all_goals (repeat' first | exact CLe.refl _ | exact True.intro | (refine CLe_sln ?_; first | with_reducible rfl | (simp only [List.take_zero]; done) | (rfl; done)) | exact CLe_nI (by omega) | exact CLe_int (by omega) | exact CLe_inI (by omega) | exact CLe_nIi (by omega) | with_reducible apply And.intro))
 case bd_24 =>
  rintro i hi
  refine Tr.seqK fun K11 hK11 => ?_
  refine Tr.seqK fun K12 hK12 => ?_
  refine Tr.rg hcx [] _ [] rfl rfl rfl ?_
  simp -implicitDefEqProofs (maxSteps := 2000000) (disch := first | omega | (simp only [go_sem, List.length_append, List.length_drop, List.length_take, hp, hq, hX, hY] <;> omega) | decide) only [go_sem, ↓reduceIte, Nat.reduceEqDiff, reduceCtorEq, Nat.reduceLT, Nat.reduceBEq, Nat.reduceAdd, Nat.reduceSub, Nat.reduceMul, Nat.reduceMod]
  refine hK12 _ ?_
  clear hK12 K12
  refine Tr.kp [2, 3, 5, 6, 7, 8, 9, 10, 25] ?_
  simp only [pk_cons, pk_nil, ↓A_cons, ↓reduceIte, Nat.reduceEqDiff]
  refine Tr.condG fun KT KF hT hF => ?_
  simp only [ev_tmp, ev_const, ↓A_cons, ↓reduceIte, Nat.reduceEqDiff, reduceCtorEq, condG_bool, GB_true, GB_false, decide_eq_true_eq]
  refine GB.dec (fun hc25 => hT ?_) (fun hc25 => hF ?_)
  ·
   clear hT hF KT KF
   refine Tr.skip ?_
   refine hK11 _ ?_
   clear hK11 K11
   refine Tr.kp [2, 3, 5, 6, 7, 8, 9, 10] ?_
   simp only [pk_cons, pk_nil, ↓A_cons, ↓reduceIte, Nat.reduceEqDiff]
   refine Tr.seqK fun K13 hK13 => ?_
   refine Tr.blk ?_
   refine Tr.seqK fun K14 hK14 => ?_
   by_cases y0 : anyLt X Y i = true
   ·
    skip
    by_cases y1 : anyLt Y X i = true
    ·
     skip
     refine Tr.rgD hcx hMO [1000039] [some 28, some 29, some 30, some 31, some 32, some 33, some 34, some 35, some 36, some 37, some 38, some 39, some 8] [] rfl rfl rfl rfl ?_
     simp -implicitDefEqProofs (maxSteps := 2000000) (disch := first | omega | (simp only [go_sem, List.length_append, List.length_drop, List.length_take, hp, hq, hX, hY] <;> omega) | decide) only [go_sem, ↓reduceIte, Nat.reduceEqDiff, reduceCtorEq, Nat.reduceLT, Nat.reduceBEq, Nat.reduceAdd, Nat.reduceSub, Nat.reduceMul, Nat.reduceMod, y0, y1]
     with_reducible refine And.intro ?_ ?_
     · exact rfl
     refine hK14 _ ?_
     clear hK14 K14
     refine Tr.kp [2, 3, 5, 6, 7, 8, 9, 10] ?_
     simp only [pk_cons, pk_nil, ↓A_cons, ↓reduceIte, Nat.reduceEqDiff]
     refine Tr.rgD hcx hMO [1000051] [some 40, some 41, some 42, some 43, some 44, some 45, some 46, some 47, some 48, some 49, some 50, some 51, some 9] [] rfl rfl rfl rfl ?_
     simp -implicitDefEqProofs (maxSteps := 2000000) (disch := first | omega | (simp only [go_sem, List.length_append, List.length_drop, List.length_take, hp, hq, hX, hY] <;> omega) | decide) only [go_sem, ↓reduceIte, Nat.reduceEqDiff, reduceCtorEq, Nat.reduceLT, Nat.reduceBEq, Nat.reduceAdd, Nat.reduceSub, Nat.reduceMul, Nat.reduceMod, y0, y1]
     with_reducible refine And.intro ?_ ?_
     · exact rfl
     refine hK13 _ ?_
     clear hK13 K13
     refine Tr.kp [2, 3, 5, 6, 7, 8, 9, 10] ?_
     simp only [pk_cons, pk_nil, ↓A_cons, ↓reduceIte, Nat.reduceEqDiff]
     refine Tr.rg hcx [1000027] _ [] rfl rfl rfl ?_
     simp -implicitDefEqProofs (maxSteps := 2000000) (disch := first | omega | (simp only [go_sem, List.length_append, List.length_drop, List.length_take, hp, hq, hX, hY] <;> omega) | decide) only [go_sem, ↓reduceIte, Nat.reduceEqDiff, reduceCtorEq, Nat.reduceLT, Nat.reduceBEq, Nat.reduceAdd, Nat.reduceSub, Nat.reduceMul, Nat.reduceMod, y0, y1]
     refine ⟨i + 1, ⟨by omega, by first | omega | (simp only []; omega)⟩, ?_, rfl⟩
     (simp only [Le_nil, Le_cons, ↓A_cons, ↓reduceIte, Nat.reduceEqDiff, reduceCtorEq, CLe_refl, CLe_top, CLe_full, CLe_nil, CLe_own, and_true, true_and]; all_goals (repeat' first | exact CLe.refl _ | exact True.intro | (refine CLe_sln ?_; first | with_reducible rfl | (simp only [List.take_zero]; done) | (rfl; done)) | exact CLe_nI (by omega) | exact CLe_int (by omega) | exact CLe_inI (by omega) | exact CLe_nIi (by omega) | with_reducible apply And.intro))
     all_goals first | exact CLe.refl _ | (rw [anyLt_S, y0, Bool.true_or]; exact CLe.refl _) | (rw [anyLt_S, y0, Bool.false_or]; exact CLe.refl _) | (rw [anyLt_S, y1, Bool.true_or]; exact CLe.refl _) | (rw [anyLt_S, y1, Bool.false_or]; exact CLe.refl _)
    ·
     replace y1 : anyLt Y X i = false := by simpa using y1
     refine Tr.rgD hcx hMO [1000039] [some 28, some 29, some 30, some 31, some 32, some 33, some 34, some 35, some 36, some 37, some 38, some 39, some 8] [] rfl rfl rfl rfl ?_
     simp -implicitDefEqProofs (maxSteps := 2000000) (disch := first | omega | (simp only [go_sem, List.length_append, List.length_drop, List.length_take, hp, hq, hX, hY] <;> omega) | decide) only [go_sem, ↓reduceIte, Nat.reduceEqDiff, reduceCtorEq, Nat.reduceLT, Nat.reduceBEq, Nat.reduceAdd, Nat.reduceSub, Nat.reduceMul, Nat.reduceMod, y0, y1]
     with_reducible refine And.intro ?_ ?_
     · exact rfl
     refine hK14 _ ?_
     clear hK14 K14
     refine Tr.kp [2, 3, 5, 6, 7, 8, 9, 10] ?_
     simp only [pk_cons, pk_nil, ↓A_cons, ↓reduceIte, Nat.reduceEqDiff]
     refine Tr.rgD hcx hMO [1000051] [some 40, some 41, some 42, some 43, some 44, some 45, some 46, some 47, some 48, some 49, some 50, some 51, some 9] [] rfl rfl rfl rfl ?_
     simp -implicitDefEqProofs (maxSteps := 2000000) (disch := first | omega | (simp only [go_sem, List.length_append, List.length_drop, List.length_take, hp, hq, hX, hY] <;> omega) | decide) only [go_sem, ↓reduceIte, Nat.reduceEqDiff, reduceCtorEq, Nat.reduceLT, Nat.reduceBEq, Nat.reduceAdd, Nat.reduceSub, Nat.reduceMul, Nat.reduceMod, y0, y1]
     with_reducible refine And.intro ?_ ?_
     · exact rfl
     refine hK13 _ ?_
     clear hK13 K13
     refine Tr.kp [2, 3, 5, 6, 7, 8, 9, 10] ?_
     simp only [pk_cons, pk_nil, ↓A_cons, ↓reduceIte, Nat.reduceEqDiff]
     refine Tr.rg hcx [1000027] _ [] rfl rfl rfl ?_
     simp -implicitDefEqProofs (maxSteps := 2000000) (disch := first | omega | (simp only [go_sem, List.length_append, List.length_drop, List.length_take, hp, hq, hX, hY] <;> omega) | decide) only [go_sem, ↓reduceIte, Nat.reduceEqDiff, reduceCtorEq, Nat.reduceLT, Nat.reduceBEq, Nat.reduceAdd, Nat.reduceSub, Nat.reduceMul, Nat.reduceMod, y0, y1]
     refine ⟨i + 1, ⟨by omega, by first | omega | (simp only []; omega)⟩, ?_, rfl⟩
     (simp only [Le_nil, Le_cons, ↓A_cons, ↓reduceIte, Nat.reduceEqDiff, reduceCtorEq, CLe_refl, CLe_top, CLe_full, CLe_nil, CLe_own, and_true, true_and]; all_goals (repeat' first | exact CLe.refl _ | exact True.intro | (refine CLe_sln ?_; first | with_reducible rfl | (simp only [List.take_zero]; done) | (rfl; done)) | exact CLe_nI (by omega) | exact CLe_int (by omega) | exact CLe_inI (by omega) | exact CLe_nIi (by omega) | with_reducible apply And.intro))
     all_goals first | exact CLe.refl _ | (rw [anyLt_S, y0, Bool.true_or]; exact CLe.refl _) | (rw [anyLt_S, y0, Bool.false_or]; exact CLe.refl _) | (rw [anyLt_S, y1, Bool.true_or]; exact CLe.refl _) | (rw [anyLt_S, y1, Bool.false_or]; exact CLe.refl _)
   ·
    replace y0 : anyLt X Y i = false := by simpa using y0
    by_cases y1 : anyLt Y X i = true
    ·
     skip
     refine Tr.rgD hcx hMO [1000039] [some 28, some 29, some 30, some 31, some 32, some 33, some 34, some 35, some 36, some 37, some 38, some 39, some 8] [] rfl rfl rfl rfl ?_
     simp -implicitDefEqProofs (maxSteps := 2000000) (disch := first | omega | (simp only [go_sem, List.length_append, List.length_drop, List.length_take, hp, hq, hX, hY] <;> omega) | decide) only [go_sem, ↓reduceIte, Nat.reduceEqDiff, reduceCtorEq, Nat.reduceLT, Nat.reduceBEq, Nat.reduceAdd, Nat.reduceSub, Nat.reduceMul, Nat.reduceMod, y0, y1]
     with_reducible refine And.intro ?_ ?_
     · exact rfl
     refine hK14 _ ?_
     clear hK14 K14
     refine Tr.kp [2, 3, 5, 6, 7, 8, 9, 10] ?_
     simp only [pk_cons, pk_nil, ↓A_cons, ↓reduceIte, Nat.reduceEqDiff]
     refine Tr.rgD hcx hMO [1000051] [some 40, some 41, some 42, some 43, some 44, some 45, some 46, some 47, some 48, some 49, some 50, some 51, some 9] [] rfl rfl rfl rfl ?_
     simp -implicitDefEqProofs (maxSteps := 2000000) (disch := first | omega | (simp only [go_sem, List.length_append, List.length_drop, List.length_take, hp, hq, hX, hY] <;> omega) | decide) only [go_sem, ↓reduceIte, Nat.reduceEqDiff, reduceCtorEq, Nat.reduceLT, Nat.reduceBEq, Nat.reduceAdd, Nat.reduceSub, Nat.reduceMul, Nat.reduceMod, y0, y1]
     with_reducible refine And.intro ?_ ?_
     · exact rfl
     refine hK13 _ ?_
     clear hK13 K13
     refine Tr.kp [2, 3, 5, 6, 7, 8, 9, 10] ?_
     simp only [pk_cons, pk_nil, ↓A_cons, ↓reduceIte, Nat.reduceEqDiff]
     refine Tr.rg hcx [1000027] _ [] rfl rfl rfl ?_
     simp -implicitDefEqProofs (maxSteps := 2000000) (disch := first | omega | (simp only [go_sem, List.length_append, List.length_drop, List.length_take, hp, hq, hX, hY] <;> omega) | decide) only [go_sem, ↓reduceIte, Nat.reduceEqDiff, reduceCtorEq, Nat.reduceLT, Nat.reduceBEq, Nat.reduceAdd, Nat.reduceSub, Nat.reduceMul, Nat.reduceMod, y0, y1]
     refine ⟨i + 1, ⟨by omega, by first | omega | (simp only []; omega)⟩, ?_, rfl⟩
     (simp only [Le_nil, Le_cons, ↓A_cons, ↓reduceIte, Nat.reduceEqDiff, reduceCtorEq, CLe_refl, CLe_top, CLe_full, CLe_nil, CLe_own, and_true, true_and]; all_goals (repeat' first | exact CLe.refl _ | exact True.intro | (refine CLe_sln ?_; first | with_reducible rfl | (simp only [List.take_zero]; done) | (rfl; done)) | exact CLe_nI (by omega) | exact CLe_int (by omega) | exact CLe_inI (by omega) | exact CLe_nIi (by omega) | with_reducible apply And.intro))
     all_goals first | exact CLe.refl _ | (rw [anyLt_S, y0, Bool.true_or]; exact CLe.refl _) | (rw [anyLt_S, y0, Bool.false_or]; exact CLe.refl _) | (rw [anyLt_S, y1, Bool.true_or]; exact CLe.refl _) | (rw [anyLt_S, y1, Bool.false_or]; exact CLe.refl _)
    ·
     replace y1 : anyLt Y X i = false := by simpa using y1
     refine Tr.rgD hcx hMO [1000039] [some 28, some 29, some 30, some 31, some 32, some 33, some 34, some 35, some 36, some 37, some 38, some 39, some 8] [] rfl rfl rfl rfl ?_
     simp -implicitDefEqProofs (maxSteps := 2000000) (disch := first | omega | (simp only [go_sem, List.length_append, List.length_drop, List.length_take, hp, hq, hX, hY] <;> omega) | decide) only [go_sem, ↓reduceIte, Nat.reduceEqDiff, reduceCtorEq, Nat.reduceLT, Nat.reduceBEq, Nat.reduceAdd, Nat.reduceSub, Nat.reduceMul, Nat.reduceMod, y0, y1]
     with_reducible refine And.intro ?_ ?_
     · exact rfl
     refine hK14 _ ?_
     clear hK14 K14
     refine Tr.kp [2, 3, 5, 6, 7, 8, 9, 10] ?_
     simp only [pk_cons, pk_nil, ↓A_cons, ↓reduceIte, Nat.reduceEqDiff]
     refine Tr.rgD hcx hMO [1000051] [some 40, some 41, some 42, some 43, some 44, some 45, some 46, some 47, some 48, some 49, some 50, some 51, some 9] [] rfl rfl rfl rfl ?_
     simp -implicitDefEqProofs (maxSteps := 2000000) (disch := first | omega | (simp only [go_sem, List.length_append, List.length_drop, List.length_take, hp, hq, hX, hY] <;> omega) | decide) only [go_sem, ↓reduceIte, Nat.reduceEqDiff, reduceCtorEq, Nat.reduceLT, Nat.reduceBEq, Nat.reduceAdd, Nat.reduceSub, Nat.reduceMul, Nat.reduceMod, y0, y1]
     with_reducible refine And.intro ?_ ?_
     · exact rfl
     refine hK13 _ ?_
     clear hK13 K13
     refine Tr.kp [2, 3, 5, 6, 7, 8, 9, 10] ?_
     simp only [pk_cons, pk_nil, ↓A_cons, ↓reduceIte, Nat.reduceEqDiff]
     refine Tr.rg hcx [1000027] _ [] rfl rfl rfl ?_
     simp -implicitDefEqProofs (maxSteps := 2000000) (disch := first | omega | (simp only [go_sem, List.length_append, List.length_drop, List.length_take, hp, hq, hX, hY] <;> omega) | decide) only [go_sem, ↓reduceIte, Nat.reduceEqDiff, reduceCtorEq, Nat.reduceLT, Nat.reduceBEq, Nat.reduceAdd, Nat.reduceSub, Nat.reduceMul, Nat.reduceMod, y0, y1]
     refine ⟨i + 1, ⟨by omega, by first | omega | (simp only []; omega)⟩, ?_, rfl⟩
     (simp only [Le_nil, Le_cons, ↓A_cons, ↓reduceIte, Nat.reduceEqDiff, reduceCtorEq, CLe_refl, CLe_top, CLe_full, CLe_nil, CLe_own, and_true, true_and]; all_goals (repeat' first | exact CLe.refl _ | exact True.intro | (refine CLe_sln ?_; first | with_reducible rfl | (simp only [List.take_zero]; done) | (rfl; done)) | exact CLe_nI (by omega) | exact CLe_int (by omega) | exact CLe_inI (by omega) | exact CLe_nIi (by omega) | with_reducible apply And.intro))
     all_goals first | exact CLe.refl _ | (rw [anyLt_S, y0, Bool.true_or]; exact CLe.refl _) | (rw [anyLt_S, y0, Bool.false_or]; exact CLe.refl _) | (rw [anyLt_S, y1, Bool.true_or]; exact CLe.refl _) | (rw [anyLt_S, y1, Bool.false_or]; exact CLe.refl _)
  ·
   clear hT hF KT KF
   obtain rfl : i = 68 := by omega
   refine Tr.exit ?_
   refine hK9 _ ?_
   clear hK11 K11 hK9 K9
   refine Tr.kp [2, 3, 5, 8, 9] ?_
   simp only [pk_cons, pk_nil, ↓A_cons, ↓reduceIte, Nat.reduceEqDiff]
   refine Tr.seqK fun K15 hK15 => ?_
   by_cases z0 : p = q
   ·
    have hc1 := True.intro
    have hc2 := True.intro
    refine Tr.rg hcx [1000063] [some 52, some 53, some 54, some 55, some 56, some 57, some 58, some 59, some 60, some 61, some 62, some 63, some 4] [] rfl rfl rfl ?_
    simp -implicitDefEqProofs (maxSteps := 2000000) (disch := first | omega | (simp only [go_sem, List.length_append, List.length_drop, List.length_take, hp, hq, hX, hY] <;> omega) | decide) only [go_sem, ↓reduceIte, Nat.reduceEqDiff, reduceCtorEq, Nat.reduceLT, Nat.reduceBEq, Nat.reduceAdd, Nat.reduceSub, Nat.reduceMul, Nat.reduceMod, z0, eq23, hc1, hc2]
    refine hK15 _ ?_
    clear hK15 K15
    refine Tr.kp [4] ?_
    simp only [pk_cons, pk_nil, ↓A_cons, ↓reduceIte, Nat.reduceEqDiff]
    refine Tr.ret ?_
    simp -implicitDefEqProofs (disch := first | omega | (simp only [go_sem, List.length_append, List.length_drop, List.length_take, hp, hq, hX, hY] <;> omega) | decide) only [go_sem, ↓reduceIte, Nat.reduceEqDiff, reduceCtorEq]
    all_goals (first | rfl | (rw [hc1, hc2]; rfl) | (simp [hc1, hc2]; done))
   ·
    obtain ⟨hc1, hc2⟩ := hcr z0
    refine Tr.rg hcx [1000063] [some 52, some 53, some 54, some 55, some 56, some 57, some 58, some 59, some 60, some 61, some 62, some 63, some 4] [] rfl rfl rfl ?_
    simp -implicitDefEqProofs (maxSteps := 2000000) (disch := first | omega | (simp only [go_sem, List.length_append, List.length_drop, List.length_take, hp, hq, hX, hY] <;> omega) | decide) only [go_sem, ↓reduceIte, Nat.reduceEqDiff, reduceCtorEq, Nat.reduceLT, Nat.reduceBEq, Nat.reduceAdd, Nat.reduceSub, Nat.reduceMul, Nat.reduceMod, z0, eq23, hc1, hc2]
    refine hK15 _ ?_
    clear hK15 K15
    refine Tr.kp [4] ?_
    simp only [pk_cons, pk_nil, ↓A_cons, ↓reduceIte, Nat.reduceEqDiff]
    refine Tr.ret ?_
    simp -implicitDefEqProofs (disch := first | omega | (simp only [go_sem, List.length_append, List.length_drop, List.length_take, hp, hq, hX, hY] <;> omega) | decide) only [go_sem, ↓reduceIte, Nat.reduceEqDiff, reduceCtorEq]
    all_goals (first | rfl | (rw [hc1, hc2]; rfl) | (simp [hc1, hc2]; done))
end Go.Sx
namespace Go.Sx
open Go.RowKit Go.Proofs
end Go.Sx
namespace Go.Sx
open Go.RowKit Go.Proofs
end Go.Sx
namespace Go.Sx
theorem lt_le (m : Nat) : m < 256 ^ (le m).length := by
  induction m using Nat.strongRecOn with
  | _ m ih =>
    by_cases h : m = 0
    · subst h; rw [le_zero]; decide
    · have := ih (m / 256) (Nat.div_lt_self (by omega) (by decide))
      rw [le_pos m h, List.length_cons, Nat.pow_succ]
      omega
theorem acc_be (f : UInt8) : ∀ (k m : Nat), m < 256 ^ k → accF f ((be m k).map (· ^^^ f)) = m
  | 0, m, h => by
    have : m = 0 := by simpa using h
    subst this; rfl
  | k + 1, m, h => by
    have e : m = m / 256 * 256 + m % 256 := by omega
    have h2 : m / 256 < 256 ^ k := by rw [Nat.pow_succ] at h; exact Nat.div_lt_of_lt_mul (by omega)
    have h3 : m % 256 < 256 := Nat.mod_lt _ (by decide)
    conv => lhs; rw [e]
    rw [be_snoc _ _ _ h3, List.map_append, List.map_cons, List.map_nil, accF_snoc, acc_be f k _ h2, UInt8.xor_assoc, UInt8.xor_self, UInt8.xor_zero]
    have : (UInt8.ofNat (m % 256)).toNat = m % 256 := by show (m % 256) % 256 = m % 256; omega
    omega
theorem flip_wI (f : UInt8) (hf : f = 0 ∨ f = 255) (L : Nat) (h : L ≤ 8) : flipOf (UInt8.ofNat (128 + L) ^^^ f) = f := by
  have : ∀ L < 9, flipOf (UInt8.ofNat (128 + L) ^^^ 0) = 0 ∧ flipOf (UInt8.ofNat (128 + L) ^^^ 255) = 255 := by decide
  rcases hf with rfl | rfl
  · exact (this L (by omega)).1
  · exact (this L (by omega)).2
theorem getI_wI (m : Nat) (f : UInt8) (hf : f = 0 ∨ f = 255) (hm : m < 9223372036854775808) (t : List UInt8) : getI (wI m f ++ t) = (if f = 255 then -1 - (m : Int) else (m : Int), (le m).length + 1, 0) := by
  have hL : (le m).length ≤ 8 := le_len 8 m (by omega)
  have hfl := flip_wI f hf _ hL
  have hk : kOf (UInt8.ofNat (128 + (le m).length) ^^^ f) = (le m).length := by
    unfold kOf
    rw [hfl, UInt8.xor_assoc, UInt8.xor_self, UInt8.xor_zero]
    show (128 + (le m).length) % 256 - 128 = _
    omega
  have hbl : ((be m (le m).length).map (· ^^^ f)).length = (le m).length := by rw [List.length_map, be_len]
  have htk : ((be m (le m).length).map (· ^^^ f) ++ t).take (le m).length = (be m (le m).length).map (· ^^^ f) := by
    rw [List.take_append_of_le_length (by omega), List.take_of_length_le (by omega)]
  have hac : accF (flipOf (UInt8.ofNat (128 + (le m).length) ^^^ f)) (((be m (le m).length).map (· ^^^ f) ++ t).take (le m).length) = m := by
    rw [hfl, htk]; exact acc_be f _ m (lt_le m)
  have hrl : (le m).length ≤ ((be m (le m).length).map (· ^^^ f) ++ t).length := by rw [List.length_append]; omega
  have h3 := (canon hk hL hrl).1 (by rw [hac, htk, hfl]; rfl)
  have h128 := x128 (UInt8.ofNat (128 + (le m).length) ^^^ f)
  show getI ((UInt8.ofNat (128 + (le m).length) ^^^ f) :: ((be m (le m).length).map (· ^^^ f) ++ t)) = _
  rcases hf with rfl | rfl
  · have hx : ¬ (UInt8.ofNat (128 + (le m).length) ^^^ 0 : UInt8) < 128 := by
      intro hx
      have := hfl
      unfold flipOf at this
      rw [if_pos hx] at this
      exact absurd this (by decide)
    rw [getI_6 hk (by omega) (by rw [List.length_cons]; omega) h3 (by rw [hac]; omega) hx, hac]
    rfl
  · have hx : (UInt8.ofNat (128 + (le m).length) ^^^ 255 : UInt8) < 128 := by
      apply Classical.byContradiction
      intro hx
      have := hfl
      unfold flipOf at this
      rw [if_neg hx] at this
      exact absurd this (by decide)
    rw [getI_5 hk (by omega) (by rw [List.length_cons]; omega) h3 (by rw [hac]; omega) hx, hac]
    rfl
theorem wI_len (m : Nat) (f : UInt8) : (wI m f).length = (le m).length + 1 := by unfold wI; rw [List.length_cons, List.length_map, be_len]
theorem getI_wint (n : Int) (hn : -9223372036854775808 ≤ n ∧ n ≤ 9223372036854775807) (t : List UInt8) : getI (wint n ++ t) = (n, (wint n).length, 0) := by
  rcases Int.lt_or_le n 0 with h | h
  · obtain ⟨m, hm⟩ : ∃ m : Nat, n = -1 - (m : Int) := ⟨(-1 - n).toNat, by omega⟩
    subst hm
    have hL : (le m).length ≤ 8 := le_len 8 m (by omega)
    rw [wint_neg m hL, getI_wI m 255 (.inr rfl) (by omega), wI_len, if_pos rfl]
  · obtain ⟨m, hm⟩ : ∃ m : Nat, n = (m : Int) := ⟨n.toNat, by omega⟩
    subst hm
    rw [wint_pos, getI_wI m 0 (.inl rfl) (by omega), wI_len, if_neg (by decide)]
end Go.Sx
namespace Go.Sx
open Go.RowKit Go.Proofs
theorem advT_add (i c f : Nat) (v : List UInt8) (a : Nat) : ∀ n, advT i c (f + a) (advT i c f v a) n = advT i c f v (a + n)
  | 0 => rfl
  | n + 1 => by rw [advT, advT_add i c f v a n, ← Nat.add_assoc a n 1, advT, Nat.add_assoc f a n]
theorem at16_cat (f : Nat → List UInt8) (hf : ∀ c, (f c).length = 16) : ∀ (n : Nat) (t : List UInt8) (c : Nat), c < n → at16 (catV f n ++ t) c = f c
  | 0, t, c, h => absurd h (Nat.not_lt_zero c)
  | n + 1, t, c, h => by
    rw [catV, List.append_assoc]
    by_cases e : c < n
    · exact at16_cat f hf n (f n ++ t) c e
    · obtain rfl : c = n := by omega
      unfold at16
      rw [← catV_len hf c, List.drop_left, ← hf c, List.take_left]
def sgF (seed : List UInt8) (i : Nat) (D : List Nat) (c : Nat) : List UInt8 := advT i c 0 (staT seed i c) (gt D c)
def auF (seed : List UInt8) (i : Nat) (l : Nat) : List UInt8 := treeT seed l (sib (i / 2 ^ l))
theorem sgF_len (seed : List UInt8) (i : Nat) (D : List Nat) (c : Nat) : (sgF seed i D c).length = 16 := advT_len _ _ _ (staT_len _ _ _) _
theorem auF_len (seed : List UInt8) (i l : Nat) : (auF seed i l).length = 16 := treeT_len _ _ _
theorem sgR_cat (seed : List UInt8) (i : Nat) (D : List Nat) : ∀ n, sgR seed i D n = wint (i : Int) ++ catV (sgF seed i D) n
  | 0 => by rw [sgR, catV, List.append_nil]
  | n + 1 => by rw [sgR, sgR_cat seed i D n, catV, List.append_assoc]; rfl
theorem auR_cat (seed : List UInt8) (i : Nat) (S : List UInt8) : ∀ n, auR seed i S n = S ++ catV (auF seed i) n
  | 0 => by rw [auR, catV, List.append_nil]
  | n + 1 => by rw [auR, auR_cat seed i S n, catV, List.append_assoc]; rfl
/-- What stands behind the number in a signature. -/
def bodT (seed : List UInt8) (h i : Nat) (m : List UInt8) : List UInt8 := catV (sgF seed i (digT (msgT (treeT seed h 0) (i : Int) m))) 68 ++ catV (auF seed i) h
theorem sigT_eq (seed : List UInt8) (h i : Nat) (m : List UInt8) : sigT seed h i m = wint (i : Int) ++ bodT seed h i m := by
  unfold sigT bodT
  rw [auR_cat, sgR_cat, List.append_assoc]
theorem bodT_len (seed : List UInt8) (h i : Nat) (m : List UInt8) : (bodT seed h i m).length = (68 + h) * 16 := by
  unfold bodT
  rw [List.length_append, catV_len (sgF_len seed i _), catV_len (auF_len seed i)]; omega
theorem at16_lo (seed : List UInt8) (h i : Nat) (m : List UInt8) {c : Nat} (hc : c < 68) : at16 (bodT seed h i m) c = sgF seed i (digT (msgT (treeT seed h 0) (i : Int) m)) c :=
  at16_cat _ (sgF_len seed i _) 68 _ c hc
theorem at16_hi (seed : List UInt8) (h i : Nat) (m : List UInt8) {l : Nat} (hl : l < h) : at16 (bodT seed h i m) (68 + l) = auF seed i l := by
  have e := at16_cat (auF seed i) (auF_len seed i) h [] l hl
  rw [List.append_nil] at e
  rw [← e]
  unfold bodT at16
  have hlen := catV_len (sgF_len seed i (digT (msgT (treeT seed h 0) (i : Int) m))) 68
  rw [show 16 * (68 + l) = (catV (sgF seed i (digT (msgT (treeT seed h 0) (i : Int) m))) 68).length + 16 * l by rw [hlen]; omega, ← List.drop_drop, List.drop_left]
theorem endV_top (seed : List UInt8) (h i : Nat) (m : List UInt8) {c : Nat} (hc : c < 68) : endV i (digT (msgT (treeT seed h 0) (i : Int) m)) (bodT seed h i m) c = topT seed i c := by
  have hd := digT_lt (msgT (treeT seed h 0) (i : Int) m) c hc
  unfold endV
  rw [at16_lo seed h i m hc]
  unfold sgF topT
  have := advT_add i c 0 (staT seed i c) (gt (digT (msgT (treeT seed h 0) (i : Int) m)) c) (3 - gt (digT (msgT (treeT seed h 0) (i : Int) m)) c)
  rw [Nat.zero_add] at this
  rw [this, show gt (digT (msgT (treeT seed h 0) (i : Int) m)) c + (3 - gt (digT (msgT (treeT seed h 0) (i : Int) m)) c) = 3 by omega]
theorem up_tree (seed : List UInt8) (h i : Nat) (m : List UInt8) : ∀ l, l ≤ h → upR i (bodT seed h i m) (leafT seed i) l = treeT seed l (i / 2 ^ l)
  | 0, _ => by rw [upR, Nat.pow_zero, Nat.div_one]; rfl
  | l + 1, hl => by
    have ih := up_tree seed h i m l (by omega)
    have ha := at16_hi seed h i m (l := l) (by omega)
    have hj : i / 2 ^ (l + 1) = i / 2 ^ l / 2 := by rw [Nat.pow_succ, Nat.div_div_eq_div_mul]
    rw [hj]
    generalize hq : i / 2 ^ l = j at *
    rw [show treeT seed (l + 1) (j / 2) = nodT (treeT seed l (2 * (j / 2))) (treeT seed l (2 * (j / 2) + 1)) from rfl]
    unfold auF at ha
    rw [hq] at ha
    by_cases ho : j % 2 = 1
    · rw [up_T (by rw [hq]; exact ho), ih, ha, show sib j = 2 * (j / 2) by unfold sib; rw [if_pos ho]; omega]
      rw [show treeT seed l j = treeT seed l (2 * (j / 2) + 1) by rw [show 2 * (j / 2) + 1 = j by omega]]
    · rw [up_F (by rw [hq]; exact ho), ih, ha, show sib j = 2 * (j / 2) + 1 by unfold sib; rw [if_neg ho]; omega]
      rw [show treeT seed l j = treeT seed l (2 * (j / 2)) by rw [show 2 * (j / 2) = j by omega]]
theorem root_sig {seed : List UInt8} {h i : Nat} {m : List UInt8} (hi : i < 2 ^ h) : rootV (treeT seed h 0) h i m (bodT seed h i m) = treeT seed h 0 := by
  unfold rootV
  rw [leafV_congr (g := topT seed i) (fun c hc => endV_top seed h i m hc)]
  have := up_tree seed h i m h (Nat.le_refl _)
  rw [Nat.div_eq_of_lt hi] at this
  exact this
theorem getI_sig {seed : List UInt8} {h i : Nat} {m : List UInt8} (hi : i < 1000000) (t : List UInt8) : getI (sigT seed h i m ++ t) = ((i : Int), (wint (i : Int)).length, 0) := by
  rw [sigT_eq, List.append_assoc]
  exact getI_wint _ (by omega) _
/-- Verify accepts what Sign returns. -/
theorem ver_sign {seed : List UInt8} {h i : Nat} {m : List UInt8} (hh : h ≤ 6) (hi : i < 2 ^ h) (hm : ¬ 1048576 < m.length) : verT (treeT seed h 0) (h : Int) m (sigT seed h i m) = ((i : Int), 0) := by
  have h64 := pow_64 hh 0
  rw [Nat.sub_zero] at h64
  have hg := getI_sig (seed := seed) (h := h) (i := i) (m := m) (by omega) []
  rw [List.append_nil] at hg
  have hd : (sigT seed h i m).drop (wint (i : Int)).length = bodT seed h i m := by rw [sigT_eq, List.drop_left]
  rw [ver_z hh hm hg hi (by rw [hd, bodT_len]), hd, root_sig hi, if_pos rfl]
end Go.Sx
namespace Go.Sx
open Go.RowKit Go.Proofs
end Go.Sx
namespace Go.Sx
open Go.RowKit Go.Proofs
/-- A number is worked out before it is handed on. -/
def frc {α : Type} (n : Nat) (f : Nat → α) : α := Nat.rec (f 0) (fun k _ => f (k + 1)) n
theorem frc_eq {α : Type} (n : Nat) (f : Nat → α) : frc n f = f n := by cases n <;> rfl
def rrN (x n : Nat) : Nat := (x >>> n) ||| ((x <<< (32 - n)) % 4294967296)
def nxtN (w0 w1 w9 w14 : Nat) : Nat := (w0 + (rrN w1 7 ^^^ rrN w1 18 ^^^ (w1 >>> 3)) + w9 + (rrN w14 17 ^^^ rrN w14 19 ^^^ (w14 >>> 10))) % 4294967296
def t1N (k w e f g h : Nat) : Nat := h + (rrN e 6 ^^^ rrN e 11 ^^^ rrN e 25) + ((e &&& f) ^^^ ((4294967295 - e) &&& g)) + k + w
def t2N (a b c : Nat) : Nat := (rrN a 2 ^^^ rrN a 13 ^^^ rrN a 22) + ((a &&& b) ^^^ (a &&& c) ^^^ (b &&& c))
structure N8 where
  (a b c d e f g h : Nat)
def rN : List Nat → Nat → Nat → Nat → Nat → Nat → Nat → Nat → Nat → Nat → Nat → Nat → Nat → Nat → Nat → Nat → Nat → Nat → Nat → Nat → Nat → Nat → Nat → Nat → Nat → N8
  | [], _, _, _, _, _, _, _, _, _, _, _, _, _, _, _, _, a, b, c, d, e, f, g, h => ⟨a, b, c, d, e, f, g, h⟩
  | k :: ks, w0, w1, w2, w3, w4, w5, w6, w7, w8, w9, w10, w11, w12, w13, w14, w15, a, b, c, d, e, f, g, h =>
    frc (t1N k w0 e f g h) fun t1 => frc ((t1 + t2N a b c) % 4294967296) fun a' => frc ((d + t1) % 4294967296) fun e' => frc (nxtN w0 w1 w9 w14) fun w16 =>
      rN ks w1 w2 w3 w4 w5 w6 w7 w8 w9 w10 w11 w12 w13 w14 w15 w16 a' a b c e' e f g
theorem rrN_eq (x : BitVec 32) (n : Nat) : rrN x.toNat n = (rr x n).toNat := by
  unfold rrN rr
  rw [BitVec.toNat_or, BitVec.toNat_ushiftRight, BitVec.toNat_shiftLeft]
def nxtB (w0 w1 w9 w14 : BitVec 32) : BitVec 32 := w0 + (rr w1 7 ^^^ rr w1 18 ^^^ w1 >>> 3) + w9 + (rr w14 17 ^^^ rr w14 19 ^^^ w14 >>> 10)
theorem nxtN_eq (w0 w1 w9 w14 : BitVec 32) : nxtN w0.toNat w1.toNat w9.toNat w14.toNat = (nxtB w0 w1 w9 w14).toNat := by
  unfold nxtN nxtB
  simp only [rrN_eq, BitVec.toNat_add, BitVec.toNat_xor, BitVec.toNat_ushiftRight]
  omega
def T1 (k w : BitVec 32) (s : S8) : BitVec 32 := s.h + (rr s.e 6 ^^^ rr s.e 11 ^^^ rr s.e 25) + (s.e &&& s.f ^^^ ~~~s.e &&& s.g) + k + w
def T2 (s : S8) : BitVec 32 := (rr s.a 2 ^^^ rr s.a 13 ^^^ rr s.a 22) + (s.a &&& s.b ^^^ s.a &&& s.c ^^^ s.b &&& s.c)
theorem t1N_eq (k w : BitVec 32) (s : S8) : t1N k.toNat w.toNat s.e.toNat s.f.toNat s.g.toNat s.h.toNat % 4294967296 = (T1 k w s).toNat := by
  unfold t1N T1
  have hn : (~~~s.e).toNat = 4294967295 - s.e.toNat := by rw [BitVec.toNat_not]
  simp only [rrN_eq, BitVec.toNat_add, BitVec.toNat_xor, BitVec.toNat_and, hn]
  omega
theorem t2N_eq (s : S8) : t2N s.a.toNat s.b.toNat s.c.toNat % 4294967296 = (T2 s).toNat := by
  unfold t2N T2
  simp only [rrN_eq, BitVec.toNat_add, BitVec.toNat_xor, BitVec.toNat_and]
def S8.n (s : S8) : N8 := ⟨s.a.toNat, s.b.toNat, s.c.toNat, s.d.toNat, s.e.toNat, s.f.toNat, s.g.toNat, s.h.toNat⟩
/-- The words of the schedule, without end. -/
def wS (b : List UInt8) (t : Nat) : BitVec 32 := gt (sched b (t + 1)) t
theorem sched_gt (b : List UInt8) : ∀ n t, t < n → gt (sched b n) t = wS b t
  | 0, t, h => absurd h (Nat.not_lt_zero t)
  | n + 1, t, h => by
    by_cases e : t < n
    · rw [← sched_gt b n t e]
      conv => lhs; rw [sched]
      exact gt_left _ _ _ (by rw [sched_len]; exact e)
    · obtain rfl : t = n := by omega
      rfl
theorem wS_nxt (b : List UInt8) (t : Nat) : wS b (t + 16) = nxtB (wS b t) (wS b (t + 1)) (wS b (t + 9)) (wS b (t + 14)) := by
  have e : wS b (t + 16) = gt (sched b (t + 16) ++ [if t + 16 < 16 then word4 b (t + 16) else
      gt (sched b (t + 16)) (t + 16 - 16) + (rr (gt (sched b (t + 16)) (t + 16 - 15)) 7 ^^^ rr (gt (sched b (t + 16)) (t + 16 - 15)) 18 ^^^ gt (sched b (t + 16)) (t + 16 - 15) >>> 3) + gt (sched b (t + 16)) (t + 16 - 7) +
        (rr (gt (sched b (t + 16)) (t + 16 - 2)) 17 ^^^ rr (gt (sched b (t + 16)) (t + 16 - 2)) 19 ^^^ gt (sched b (t + 16)) (t + 16 - 2) >>> 10)]) (t + 16) := rfl
  rw [e, gt_mid _ _ _ _ (sched_len b (t + 16)), if_neg (by omega)]
  rw [sched_gt b _ _ (by omega), sched_gt b _ _ (by omega), sched_gt b _ _ (by omega), sched_gt b _ _ (by omega)]
  rw [show t + 16 - 16 = t by omega, show t + 16 - 15 = t + 1 by omega, show t + 16 - 7 = t + 9 by omega, show t + 16 - 2 = t + 14 by omega]
  rfl
def rdsW (b : List UInt8) (s : S8) : Nat → S8
  | 0 => s
  | t + 1 => rnd (gt kc t) (wS b t) (rdsW b s t)
theorem rounds_W (b : List UInt8) (s : S8) : ∀ t, t ≤ 64 → rounds (sched b 64) s t = rdsW b s t
  | 0, _ => rfl
  | t + 1, h => by rw [rounds, rdsW, rounds_W b s t (by omega), sched_gt b 64 t (by omega)]
theorem rN_W (b : List UInt8) (s : S8) : ∀ (c t : Nat), t + c = 64 → rN ((kc.drop t).map BitVec.toNat) (wS b t).toNat (wS b (t + 1)).toNat (wS b (t + 2)).toNat (wS b (t + 3)).toNat (wS b (t + 4)).toNat (wS b (t + 5)).toNat (wS b (t + 6)).toNat (wS b (t + 7)).toNat (wS b (t + 8)).toNat (wS b (t + 9)).toNat (wS b (t + 10)).toNat (wS b (t + 11)).toNat (wS b (t + 12)).toNat (wS b (t + 13)).toNat (wS b (t + 14)).toNat (wS b (t + 15)).toNat
    (rdsW b s t).a.toNat (rdsW b s t).b.toNat (rdsW b s t).c.toNat (rdsW b s t).d.toNat (rdsW b s t).e.toNat (rdsW b s t).f.toNat (rdsW b s t).g.toNat (rdsW b s t).h.toNat = (rdsW b s 64).n
  | 0, t, h => by
    obtain rfl : t = 64 := by omega
    have : kc.drop 64 = [] := rfl
    rw [this]; rfl
  | c + 1, t, h => by
    have hd : kc.drop t = gt kc t :: kc.drop (t + 1) := by
      have hl : t < kc.length := by rw [kc_len]; omega
      rw [List.drop_eq_getElem_cons hl]; simp [gt, List.getD, List.getElem?_eq_getElem hl]
    have ih := rN_W b s c (t + 1) (by omega)
    rw [hd, List.map_cons, rN]
    simp only [frc_eq]
    have e1 := t1N_eq (gt kc t) (wS b t) (rdsW b s t)
    have e2 := t2N_eq (rdsW b s t)
    have hr : rdsW b s (t + 1) = ⟨T1 (gt kc t) (wS b t) (rdsW b s t) + T2 (rdsW b s t), (rdsW b s t).a, (rdsW b s t).b, (rdsW b s t).c, (rdsW b s t).d + T1 (gt kc t) (wS b t) (rdsW b s t), (rdsW b s t).e, (rdsW b s t).f, (rdsW b s t).g⟩ := rfl
    have ha : (t1N (gt kc t).toNat (wS b t).toNat (rdsW b s t).e.toNat (rdsW b s t).f.toNat (rdsW b s t).g.toNat (rdsW b s t).h.toNat + t2N (rdsW b s t).a.toNat (rdsW b s t).b.toNat (rdsW b s t).c.toNat) % 4294967296 = (T1 (gt kc t) (wS b t) (rdsW b s t) + T2 (rdsW b s t)).toNat := by
      rw [BitVec.toNat_add, ← e1, ← e2]; omega
    have he : ((rdsW b s t).d.toNat + t1N (gt kc t).toNat (wS b t).toNat (rdsW b s t).e.toNat (rdsW b s t).f.toNat (rdsW b s t).g.toNat (rdsW b s t).h.toNat) % 4294967296 = ((rdsW b s t).d + T1 (gt kc t) (wS b t) (rdsW b s t)).toNat := by
      rw [BitVec.toNat_add, ← e1]; omega
    rw [ha, he, nxtN_eq, ← wS_nxt]
    rw [hr] at ih
    exact ih
end Go.Sx
