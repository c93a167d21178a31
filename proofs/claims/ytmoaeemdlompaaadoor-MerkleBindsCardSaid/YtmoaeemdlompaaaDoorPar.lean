/-
   And what follows.
-/
import Derived.Test.YtmoaeemdlompaaaDoorPap
import Derived.Test.YtmoaeemdlompaaaDoorPaq
import Derived.Test.YtmoaeemdlompaaaDoorPaa
set_option linter.unusedSimpArgs false
set_option linter.unusedVariables false
namespace Go.Sx
open Go.RowKit
def atG (f : Nat) (pre : List C) : Nat → C
  | 0 => .top
  | d + 1 => .kp [.fn f (pre ++ [atG f pre d])]
theorem atG_noR (f : Nat) (pre : List C) (d : Nat) : (atG f pre d).noR = atG f pre d := by cases d <;> rfl
theorem noRefs_apx (k : Nat) (x : C) : ∀ l : List C, noRefs k (l ++ [x]) = (noRefs k l && noRef k x)
  | [] => by simp [noRefs]
  | y :: l => by simp only [List.cons_append, noRefs, noRefs_apx k x l, Bool.and_assoc]
theorem atG_nr (k f : Nat) (pre : List C) (h : noRefs k pre = true) : ∀ d, noRef k (atG f pre d) = true
  | 0 => rfl
  | d + 1 => by simp only [atG, noRef, noRefs, noRefs_apx, h, atG_nr k f pre h d, Bool.and_self]
theorem bkCs_app (r : Nat → Nat) (x : C) : ∀ l : List C, bkCs r (l ++ [x]) = bkCs r l ++ [bkC r x]
  | [] => by simp [bkCs]
  | y :: l => by simp only [List.cons_append, bkCs, bkCs_app r x l]
theorem atG_bk (r : Nat → Nat) (f : Nat) (pre : List C) : ∀ d, bkC r (atG f pre d) = atG f (bkCs r pre) d
  | 0 => by simp only [atG, bkC]
  | d + 1 => by simp only [atG, bkC, bkCs, bkCs_app, atG_bk r f pre d]
theorem mvCs_app (ρ : List Nat) (x : C) : ∀ l : List C, mvCs ρ (l ++ [x]) = mvCs ρ l ++ [mvC ρ x]
  | [] => by simp [mvCs]
  | y :: l => by simp only [List.cons_append, mvCs, mvCs_app ρ x l]
theorem atG_mv (ρ : List Nat) (f : Nat) (pre : List C) : ∀ d, mvC ρ (atG f pre d) = atG f (mvCs ρ pre) d
  | 0 => by simp only [atG, mvC]
  | d + 1 => by simp only [atG, mvC, mvCs, mvCs_app, atG_mv ρ f pre d]
theorem fzCs_app (ok : Nat → Bool) (b : Nat) (ys : List C) (x : C) : ∀ l : List C, fzCs ok b ys (l ++ [x]) = fzCs ok b ys l ++ [fzC ok b ys x]
  | [] => by simp [fzCs]
  | y :: l => by simp only [List.cons_append, fzCs, fzCs_app ok b ys x l]
theorem scrs_app (ok : Nat → Bool) (x : C) : ∀ l : List C, scrs ok (l ++ [x]) = scrs ok l ++ [scr ok x]
  | [] => by simp [scrs]
  | y :: l => by simp only [List.cons_append, scrs, scrs_app ok x l]
theorem atG_fz (ok : Nat → Bool) (b : Nat) (ys : List C) (f : Nat) (pre : List C) : ∀ d, fzC ok b ys (atG f pre d) = atG f (fzCs ok b ys pre) d
  | 0 => by simp only [atG, fzC]
  | d + 1 => by simp only [atG, fzC, fzCs, fzCs_app, atG_fz ok b ys f pre d]
theorem fzYn_self (h : Hp) (b f : Nat) (pre : List C) (h1 : scrs (okF h b) pre = pre) (h2 : ∀ ys, fzCs (okF h b) b ys pre = pre) : ∀ m, fzYn h b [.fn f (pre ++ [.bp b 0])] m = [.fn f (pre ++ [atG f pre m])]
  | 0 => by
    have e : okF h b b = false := by simp [okF]
    simp only [fzYn, fzY, scrs, scr, scrs_app, h1, e, Bool.false_eq_true, if_false]; rfl
  | m + 1 => by
    simp only [fzYn, fzCs, fzC, fzCs_app, h2, fzYn_self h b f pre h1 h2 m, if_true, List.drop_zero, List.map_cons, List.map_nil]
    rfl
section
variable (ok : Nat → Bool) (b : Nat) (ys : List C)
theorem fzC_sv (b' o n : Nat) : fzC ok b ys (.sv b' o n) = if b' = b then (if o + n ≤ ys.length then .sl .no n ((ys.drop o).take n) else .top) else if ok b' = true then .sv b' o n else .top := by simp only [fzC]
theorem fzC_bp (b' o : Nat) : fzC ok b ys (.bp b' o) = if b' = b then .kp (ys.drop o) else if ok b' = true then .bp b' o else .top := by simp only [fzC]
theorem fzC_mp (b' : Nat) : fzC ok b ys (.mp b') = if b' = b then .top else if ok b' = true then .mp b' else .top := by simp only [fzC]
theorem fzC_bt (b' t n : Nat) : fzC ok b ys (.bt b' t n) = if b' = b then .top else if ok b' = true then .bt b' t n else .top := by simp only [fzC]
theorem scr_sv (b o n : Nat) : scr ok (.sv b o n) = if ok b = true then .sv b o n else .top := by simp only [scr]
theorem scr_gv (b n : Nat) (s : Nat × Nat) : scr ok (.gv b n s) = if ok b = true then .gv b n s else .top := by simp only [scr]
theorem scr_bp (b o : Nat) : scr ok (.bp b o) = if ok b = true then .bp b o else .top := by simp only [scr]
theorem scr_mp (b : Nat) : scr ok (.mp b) = if ok b = true then .mp b else .top := by simp only [scr]
theorem scr_bt (b t n : Nat) : scr ok (.bt b t n) = if ok b = true then .bt b t n else .top := by simp only [scr]
theorem scr_kp (xs : List C) : scr ok (.kp xs) = .kp (scrs ok xs) := by simp only [scr]
theorem scr_agg (xs : List C) : scr ok (.agg xs) = .agg (scrs ok xs) := by simp only [scr]
theorem scr_fn (f : Nat) (xs : List C) : scr ok (.fn f xs) = .fn f (scrs ok xs) := by simp only [scr]
theorem scr_top : scr ok .top = .top := by simp only [scr]
theorem scr_val (v : Value) : scr ok (.val v) = .val v := by simp only [scr]
theorem scrs_nil : scrs ok [] = [] := by simp only [scrs]
theorem scrs_cons (x : C) (xs : List C) : scrs ok (x :: xs) = scr ok x :: scrs ok xs := by simp only [scrs]
theorem scrs_cl {α : Type} (f : α → List C) [h : Fla f] (l : List α) : scrs ok (cl f l) = cl f l := scrs_flat ok _ (flats_cl f l)
theorem scr_sl {α : Type} (f : α → List C) [h : Fla f] (r : Rt) (l : List α) : scr ok (sl f r l) = sl f r l := by unfold sl; simp only [scr, scrs_cl]
theorem fzH_eq (h : Hp) : fzH ok b ys h = (h.map fun o => o.map (fzCs ok b ys)).set b (some deadC) := rfl
theorem fzY_eq (h : Hp) (cells : List C) : fzY h b cells = (scrs (okF h b) cells).map C.noR := rfl
end
section
variable {cx : Cx} {Q : Ex → St → Prop} {e : List (Nat × C)} {h : Hp} {c : Code}
theorem Tr.f1 (hcx : CxOK cx) (b : Nat) (cells : List C) {e' : List (Nat × C)} {h' : Hp} (H : Tr cx 0 c ⟨A e', h'⟩ Q)
    (hb : h.at b = some cells := by simp only [go_sem])
    (E : ∀ K : List (Nat × C) → Hp → Prop, K e' h' → K (mapE (fzC (okF h b) b (fzY h b cells)) e) (fzH (okF h b) b (fzY h b cells) h) := by
      intro KZ hZ
      simp -implicitDefEqProofs only [go_sem, fzY_eq, fzY_cl, fzH_eq, mapE_nil, mapE_cons, fzC_val, fzC_top, fzC_agg, fzC_tup, fzC_kp, fzC_fn, fzC_sl, fzC_sv, fzC_bp, fzC_mp, fzC_bt, fzC_gv, fzCs_nil, fzCs_cons, fzCs_cl, scr_sv, scr_gv, scr_bp, scr_mp, scr_bt, scr_kp, scr_agg, scr_fn, scr_top, scr_val, scr_sl, scrs_nil, scrs_cons, scrs_cl, atG_fz, okF_eq, Option.isSome_some, Option.isSome_none, Nat.reduceBNe, Bool.true_and, Bool.and_true, Bool.false_and, Bool.true_or, Bool.false_or, ↓reduceIte, Nat.reduceEqDiff, reduceCtorEq, Nat.zero_ne_one, Nat.one_ne_zero]
      with_reducible exact hZ) : Tr cx 0 c ⟨A e, h⟩ Q :=
  Tr.fzA hcx b cells hb (Nat.zero_le _) (fun j hj => absurd hj (Nat.not_lt_zero j)) (E (fun x y => Tr cx 0 c ⟨A x, y⟩ Q) H)
theorem Tr.f2 (hcx : CxOK cx) (b m f : Nat) (pre : List C) {e' : List (Nat × C)} {h' : Hp} (H : Tr cx 0 c ⟨A e', h'⟩ Q)
    (hb : h.at b = some [.fn f (pre ++ [.bp b 0])] := by simp only [go_sem])
    (h1 : scrs (okF h b) pre = pre := by simp -implicitDefEqProofs only [go_sem, scr_sv, scr_gv, scr_bp, scr_mp, scr_bt, scr_kp, scr_agg, scr_fn, scr_top, scr_val, scr_sl, scrs_nil, scrs_cons, scrs_cl, okF_eq, Option.isSome_some, Nat.reduceBNe, Bool.true_and, Bool.true_or, ↓reduceIte, Nat.reduceEqDiff, reduceCtorEq])
    (h2 : ∀ ys, fzCs (okF h b) b ys pre = pre := by intro ys; simp -implicitDefEqProofs only [go_sem, fzC_val, fzC_top, fzC_agg, fzC_tup, fzC_kp, fzC_fn, fzC_sl, fzC_sv, fzC_bp, fzC_mp, fzC_bt, fzC_gv, fzCs_nil, fzCs_cons, fzCs_cl, okF_eq, Option.isSome_some, Nat.reduceBNe, Bool.true_and, Bool.true_or, ↓reduceIte, Nat.reduceEqDiff, reduceCtorEq])
    (E : ∀ K : List (Nat × C) → Hp → Prop, K e' h' → K (mapE (fzC (okF h b) b [.fn f (pre ++ [atG f pre m])]) e) (fzH (okF h b) b [.fn f (pre ++ [atG f pre m])] h) := by
      intro KZ hZ
      simp -implicitDefEqProofs only [go_sem, fzH_eq, mapE_nil, mapE_cons, fzC_val, fzC_top, fzC_agg, fzC_tup, fzC_kp, fzC_fn, fzC_sl, fzC_sv, fzC_bp, fzC_mp, fzC_bt, fzC_gv, fzCs_nil, fzCs_cons, fzCs_cl, atG_fz, okF_eq, Option.isSome_some, Option.isSome_none, Nat.reduceBNe, Bool.true_and, Bool.and_true, Bool.false_and, Bool.true_or, Bool.false_or, ↓reduceIte, Nat.reduceEqDiff, reduceCtorEq, Nat.zero_ne_one, Nat.one_ne_zero]
      with_reducible exact hZ) : Tr cx 0 c ⟨A e, h⟩ Q :=
  Tr.fzNA hcx b m _ hb (Nat.zero_le _) (fun j hj => absurd hj (Nat.not_lt_zero j)) (by rw [fzYn_self h b f pre h1 h2 m]; exact E (fun x y => Tr cx 0 c ⟨A x, y⟩ Q) H)
end
theorem eq_vn {P : Program} {t e : TypeId} {s y : Nat} {z : List Value} (op : BinOp) (a : Option Addr) (n c : Nat) (h : td P t = some ⟨.slice e, s, y, z⟩) (hg : P.eqGuardType P.depth t = false) : binPlan P op t (.val (.slice a n c)) (.val (.slice none 0 0)) = eqR op a.isNone := by
  have he : eqC P 9 t (.val (.slice a n c)) (.val (.slice none 0 0)) = some a.isNone := by
    unfold eqC; rw [h]
    show nilE (some a.isNone) (some true) = _
    cases a <;> rfl
  show eqPlan P op t _ _ = _
  unfold eqPlan
  rw [if_pos ⟨.inr (.inl ⟨rfl, rfl⟩), hg⟩]
  unfold eqR
  cases op <;> simp [he, vp, Plan.pure]
theorem RepL.pick {G : Gh} {x : C} : ∀ {pre post : List C} {vs : List Value}, RepL G (pre ++ x :: post) vs → ∃ v, Rep G x v ∧ RepL G (pre ++ .val v :: post) vs
  | [], post, vs, h => by
    simp only [List.nil_append, RepL] at h ⊢
    obtain ⟨v, vs', rfl, h1, h2⟩ := h
    exact ⟨v, h1, v, vs', rfl, rep_val.2 rfl, h2⟩
  | p :: pre, post, vs, h => by
    simp only [List.cons_append, RepL] at h ⊢
    obtain ⟨v, vs', rfl, h1, h2⟩ := h
    obtain ⟨u, g1, g2⟩ := RepL.pick h2
    exact ⟨u, g1, v, vs', rfl, h1, g2⟩
theorem FC.ofNil {P : Program} {gl : Nat → C} {f : Nat} {pre post : List C} {h h' : Hp} {c : C} {r : Rt} (he : Entered P f) (H : ∀ (a : Option Addr) (cap : Nat), cap ≤ maxLen → FC P gl f (pre ++ .val (.slice a 0 cap) :: post) h c h') : FC P gl f (pre ++ .sl r 0 [] :: post) h c h' := by
  refine ⟨he, fun G w vs W hT hg hr => ?_⟩
  obtain ⟨v, h1⟩ : ∃ v, Rep G (.sl r 0 []) v ∧ RepL G (pre ++ .val v :: post) vs.toList := RepL.pick hr
  obtain ⟨q, hl⟩ := h1
  simp only [Rep] at q
  obtain ⟨a, cap, rfl, _, h3, _, _⟩ := q
  exact (H a cap h3).2 G w vs W hT hg hl
theorem CLe.ofVal (a : Option Addr) (cap : Nat) (h : cap ≤ maxLen) : CLe (.val (.slice a 0 cap)) (.sl .no 0 []) :=
  ⟨fun G v q => by rw [rep_val] at q; simp only [Rep]; exact ⟨a, cap, q, Nat.zero_le _, h, fun e => (by cases e), by simp⟩, fun s n xs e => by cases e⟩
theorem oneB_atG (b f : Nat) (pre : List C) (d : Nat) (l : List C) : oneB b (atG f pre d :: l) = oneB b l := by cases d <;> rfl
attribute [go_sem] atG_noR oneB_atG
end Go.Sx
namespace Go.Sx
open Go.RowKit Go.Proofs
set_option maxRecDepth 100000
set_option maxHeartbeats 8000000
theorem atD_S (l : List Leaf) (d : Nat) : atG 79 [.kp [sl eC .no l]] (d + 1) = .kp [.fn 79 [.kp [sl eC .no l], atG 79 [.kp [sl eC .no l]] d]] := rfl
def OkL (l : List Leaf) : Prop := l.length ≤ 4096 ∧ ∀ i, i < l.length → (gt l i).1.length ≤ 65536 ∧ (gt l i).2.length ≤ 65536
theorem valT_ok {l : List Leaf} (h : ¬ valT l = 4) : OkL l := by
  unfold valT at h
  split at h
  · exact absurd rfl h
  · rename_i hn
    refine ⟨by omega, fun i hi => ?_⟩
    have : bigE (gt l i) = false := Bool.eq_false_iff.2 fun e => hn (Or.inr (any_at hi e))
    simp [bigE] at this; omega
theorem rowD_1 {l : List Leaf} {d a b : Nat} (h : b - a ≤ 1) : rowD l d a b = lefT (gt l a) := by
  cases d with
  | zero => rfl
  | succ d => unfold rowD; rw [if_pos h]
theorem rowD_2 {l : List Leaf} {d a b : Nat} (h : ¬ b - a ≤ 1) : rowD l (d + 1) a b = nodT (rowD l d a (a + halfT (b - a))) (rowD l d (a + halfT (b - a)) b) := by
  rw [rowD, if_neg h]
def rotL (l : List Leaf) : List UInt8 := rotT l.length (digT l)
theorem rotL_len (l : List Leaf) : (rotL l).length = 16 := rotT_len _ _
def rooT (l : List Leaf) : List UInt8 × Nat := if valT l = 0 then (rotL l, 0) else (List.replicate 16 0, valT l)
theorem rooT_no {l : List Leaf} (h : ¬ valT l = 0) : rooT l = (List.replicate 16 0, valT l) := if_neg h
theorem rooT_ok {l : List Leaf} (h : valT l = 0) : rooT l = (rotL l, 0) := if_pos h
theorem rotL_0 {l : List Leaf} (h : l.length = 0) (d : List UInt8) : rotT 0 d = rotL l := by unfold rotL; rw [h]; rfl
theorem X_fc79z {p : Prop} (e : p := by intro KZ hZ; simp -implicitDefEqProofs (disch := first | omega | (simp only [go_sem, lA, lD, lT, lefT_len] <;> omega) | decide) only [go_sem, ↓reduceIte, Nat.reduceEqDiff, reduceCtorEq, Nat.reduceLT, Nat.reduceBEq, Nat.reduceAdd, hy]; with_reducible exact hZ) : p := e
theorem F_fc79z {p : Prop} (e : p := by simp -implicitDefEqProofs (disch := first | omega | (simp only [go_sem, lA, lD, lT, lefT_len] <;> omega) | decide) only [go_sem, ↓reduceIte, Nat.reduceEqDiff, reduceCtorEq]; all_goals (rw [rowD_1 hab.2.2])) : p := e
theorem fc79z {gl : Nat → C} {M : Nat} {pu : Nat → List C → Option C}  (hcx : CxOK (cxP gl M pu))  (h80 : ∀ x : Leaf, x.1.length ≤ 65536 ∧ x.2.length ≤ 65536 → pu 80 [.agg (eC x)] = some (.agg (cl bC (lefT x)))) (l : List Leaf) (d a b : Nat) (hl : OkL l) (hab : a < b ∧ b ≤ l.length ∧ b - a ≤ 1) : FC Tryd.prog gl 79 [.val (nI a), .val (nI b), .kp [sl eC .no l], atG 79 [.kp [sl eC .no l]] d] [] (.agg (cl bC (rowD l d a b))) [] := by
 replace hcx := hcx.reN (M := 29)
 refine FC.ofA (cx := cxP gl 29 pu) (rs := [.cell 6 29]) rfl Tryd.func79 rfl rfl rfl (by simp only [List.length_cons, List.length_nil]; decide) (by simp only [go_sem]) ?_
 simp only [ini, go_sem]
 have hy := True.intro
 have h11 : b - a = 1 := by omega
 have hll := hl.1
 have e80 := h80 (gt l a) (hl.2 a (by omega))
 refine Tr.w hcx [] _ [none] rfl rfl rfl ?_ X_fc79z
 refine Tr.seqK fun K1 hK1 => ?_
 have hy := @h11
 refine Tr.w hcx [] _ [] rfl rfl rfl ?_ X_fc79z
 refine Tr.cT rfl ?_
 have hy := @e80
 refine Tr.w hcx [] _ [] rfl rfl rfl ?_ X_fc79z
 exact Tr.ret F_fc79z
theorem X_fc79s {p : Prop} (e : p := by intro KZ hZ; simp -implicitDefEqProofs (disch := first | omega | (simp only [go_sem, lA, lD, lT, rowD_len, nodT_len] <;> omega) | decide) only [go_sem, ↓reduceIte, Nat.reduceEqDiff, reduceCtorEq, Nat.reduceLT, Nat.reduceBEq, Nat.reduceAdd, hy]; with_reducible exact hZ) : p := e
theorem Y_fc79s {p : Prop} (e : p := by intro KZ hZ; simp -implicitDefEqProofs (disch := first | omega | (simp only [go_sem, lA, lD, lT, rowD_len, nodT_len] <;> omega) | decide) only [go_sem, ↓reduceIte, Nat.reduceEqDiff, reduceCtorEq, Nat.reduceLT, Nat.reduceBEq, Nat.reduceAdd, hy]; refine And.intro ?_ hZ; exact rfl) : p := e
theorem F_fc79s {p : Prop} (e : p := by simp -implicitDefEqProofs (disch := first | omega | (simp only [go_sem, lA, lD, lT, rowD_len, nodT_len] <;> omega) | decide) only [go_sem, ↓reduceIte, Nat.reduceEqDiff, reduceCtorEq]; all_goals (rw [rowD_2 (by omega)])) : p := e
theorem fc79s {gl : Nat → C} {M : Nat} {pu : Nat → List C → Option C}  (hcx : CxOK (cxP gl M pu))  (h81 : ∀ x y : Nat, x ≤ y ∧ y ≤ 4611686018427387000 → pu 81 [.val (nI x), .val (nI y)] = some (.val (nI (x + halfT (y - x))))) (h82 : ∀ a b : List UInt8, a.length = 16 → b.length = 16 → pu 82 [.agg (cl bC a), .agg (cl bC b)] = some (.agg (cl bC (nodT a b)))) (l : List Leaf) (d a b : Nat) (hl : OkL l) (hab : a < b ∧ b ≤ l.length ∧ b - a ≤ 2 ^ (d + 1) ∧ 1 < b - a) (h79 : ∀ (a b : Nat), a < b ∧ b ≤ l.length ∧ b - a ≤ 2 ^ d → pu 79 [.val (nI a), .val (nI b), .kp [sl eC .no l], atG 79 [.kp [sl eC .no l]] d] = some (.agg (cl bC (rowD l d a b)))) : FC Tryd.prog gl 79 [.val (nI a), .val (nI b), .kp [sl eC .no l], atG 79 [.kp [sl eC .no l]] (d + 1)] [] (.agg (cl bC (rowD l (d + 1) a b))) [] := by
 replace hcx := hcx.reN (M := 29)
 refine FC.ofA (cx := cxP gl 29 pu) (rs := [.cell 6 29]) rfl Tryd.func79 rfl rfl rfl (by simp only [List.length_cons, List.length_nil]; decide) (by simp only [go_sem]) ?_
 simp only [ini, go_sem]
 have hy := True.intro
 have h11 : (b - a = 1) = False := eq_false (by omega)
 have hll := hl.1
 have e81 := h81 a b (by omega)
 have hh := half_lt (n := b - a) (by omega)
 have hh2 := half_le (by omega) hab.2.2.1
 have e1 := h79 a (a + halfT (b - a)) (by omega)
 have e2 := h79 (a + halfT (b - a)) b (by omega)
 have e82 := h82 _ _ (rowD_len l d a (a + halfT (b - a))) (rowD_len l d (a + halfT (b - a)) b)
 refine Tr.w hcx [] _ [none] rfl rfl rfl ?_ X_fc79s
 refine Tr.seqK fun K1 hK1 => ?_
 have hy := @h11
 refine Tr.w hcx [] _ [] rfl rfl rfl ?_ X_fc79s
 refine Tr.cF rfl ?_
 refine Tr.skip ?_
 refine hK1 _ ?_
 have hy := @e81
 refine Tr.w hcx [1000019] _ [] rfl rfl rfl ?_ X_fc79s
 have hy := And.intro @atD_S (And.intro @e1 (And.intro @e2 @e82))
 refine Tr.wD hcx hMO [] _ [] rfl rfl rfl rfl ?_ Y_fc79s
 exact Tr.ret F_fc79s
theorem X_fc51 {p : Prop} (e : p := by intro KZ hZ; simp -implicitDefEqProofs (disch := first | omega | (simp only [go_sem, lA, lD, lT, rowD_len] <;> omega) | decide) only [go_sem, ↓reduceIte, Nat.reduceEqDiff, reduceCtorEq, Nat.reduceLT, Nat.reduceBEq, Nat.reduceAdd, hy]; with_reducible exact hZ) : p := e
theorem F_fc51 {p : Prop} (e : p := by simp -implicitDefEqProofs (disch := first | omega | (simp only [go_sem, lA, lD, lT, rowD_len] <;> omega) | decide) only [go_sem, ↓reduceIte, Nat.reduceEqDiff, reduceCtorEq]; all_goals (rfl)) : p := e
theorem fc51 {gl : Nat → C} {M : Nat} {pu : Nat → List C → Option C}  (hcx : CxOK (cxP gl M pu))  (h79 : ∀ (l : List Leaf) (d a b : Nat), OkL l → a < b ∧ b ≤ l.length ∧ b - a ≤ 2 ^ d → pu 79 [.val (nI a), .val (nI b), .kp [sl eC .no l], atG 79 [.kp [sl eC .no l]] d] = some (.agg (cl bC (rowD l d a b)))) (l : List Leaf) (hl : OkL l) (h0 : 0 < l.length) : FC Tryd.prog gl 51 [sl eC .no l] [] (.agg (cl bC (digT l))) [] := by
 replace hcx := hcx.reN (M := 9)
 refine FC.ofA (cx := cxP gl 9 pu) (rs := [.cell 2 29]) rfl Tryd.func51 rfl rfl rfl (by simp only [List.length_cons, List.length_nil]; decide) (by simp only [go_sem]) ?_
 simp only [ini, go_sem]
 have hy := True.intro
 have hll := hl.1
 have e79 := h79 l 12 0 l.length hl (by omega)
 refine Tr.w hcx [] _ [none, none] rfl rfl rfl ?_ X_fc51
 refine Tr.w hcx [] _ [none] rfl rfl rfl ?_ X_fc51
 refine Tr.w hcx [] _ [] rfl rfl rfl ?_ X_fc51
 refine Tr.k [1, 2, 3] ?_
 refine Tr.f1 hcx 0 [sl eC .no l] ?_
 refine Tr.f2 hcx 2 12 79 [.kp [sl eC .no l]] ?_
 have hy := @e79
 refine Tr.w hcx [] _ [] rfl rfl rfl ?_ X_fc51
 exact Tr.ret F_fc51
theorem X_fc12 {p : Prop} (e : p := by intro KZ hZ; simp -implicitDefEqProofs (disch := first | omega | (simp only [go_sem, lA, lD, lT, rotT_len, digT_len] <;> omega) | decide) only [go_sem, ↓reduceIte, Nat.reduceEqDiff, reduceCtorEq, Nat.reduceLT, Nat.reduceBEq, Nat.reduceAdd, b1, hy]; with_reducible exact hZ) : p := e
theorem F_fc12 {p : Prop} (e : p := by simp -implicitDefEqProofs (disch := first | omega | (simp only [go_sem, lA, lD, lT, rotT_len, digT_len] <;> omega) | decide) only [go_sem, ↓reduceIte, Nat.reduceEqDiff, reduceCtorEq]; all_goals (first | (rw [rooT_no b1]; done) | (rw [rooT_ok b1, rotL_0 hc13]; done) | (rw [rooT_ok b1]; rfl))) : p := e
theorem fc12 {gl : Nat → C} {M : Nat} {pu : Nat → List C → Option C}  (hcx : CxOK (cxP gl M pu))  (h15 : ∀ l : List Leaf, LB l → pu 15 [sl eC .no l] = some (.val (nI (valT l)))) (h50 : ∀ (n : Nat) (d : List UInt8), n ≤ 4096 → d.length = 16 → pu 50 [.val (nI n), .agg (cl bC d)] = some (.agg (cl bC (rotT n d)))) (h51 : ∀ l : List Leaf, OkL l → 0 < l.length → pu 51 [sl eC .no l] = some (.agg (cl bC (digT l)))) (l : List Leaf) (hl : LB l) : FC Tryd.prog gl 12 [sl eC .no l] [] (.tup [.agg (cl bC (rooT l).1), .val (nI (rooT l).2)]) [] := by
 replace hcx := hcx.reN (M := 21)
 refine FC.ofA (cx := cxP gl 21 pu) (rs := [.cell 2 29, .tmp 3]) rfl Tryd.func12 rfl rfl rfl (by simp only [List.length_cons, List.length_nil]; decide) (by simp only [go_sem]) ?_
 simp only [ini, go_sem]
 have b1 := True.intro
 have hy := True.intro
 have e15 := h15 l hl
 refine Tr.w hcx [] _ [none] rfl rfl rfl ?_ X_fc12
 refine Tr.seqK fun K1 hK1 => ?_
 have hy := @e15
 refine Tr.w hcx [1000006] _ [] rfl rfl rfl ?_ X_fc12
 by_cases b1 : valT l = 0
 ·
  have hok := valT_ok (l := l) (by omega)
  have hll := hok.1
  have e0 := h50 0 (List.replicate 16 0) (by omega) rfl
  have e1 := h50 l.length (digT l) hll (digT_len l)
  have hy := True.intro
  refine Tr.w hcx [] _ [] rfl rfl rfl ?_ X_fc12
  refine Tr.cF rfl ?_
  refine Tr.skip ?_
  refine hK1 _ ?_
  refine Tr.seqK fun K2 hK2 => ?_
  refine Tr.w hcx [] _ [] rfl rfl rfl ?_ X_fc12
  refine Tr.cD rfl (fun hc13 => ?_) (fun hc13 => ?_)
  ·
   have hl0 := hc13
   have hy := @e0
   refine Tr.w hcx [] _ [] rfl rfl rfl ?_ X_fc12
   exact Tr.ret F_fc12
  have e51 := h51 l hok (by omega)
  refine Tr.skip ?_
  refine hK2 _ ?_
  have hy := And.intro @e51 @e1
  refine Tr.w hcx [] _ [] rfl rfl rfl ?_ X_fc12
  exact Tr.ret F_fc12
 skip
 have hy := True.intro
 refine Tr.w hcx [] _ [] rfl rfl rfl ?_ X_fc12
 refine Tr.cT rfl ?_
 refine Tr.w hcx [1000010] _ [] rfl rfl rfl ?_ X_fc12
 exact Tr.ret F_fc12
end Go.Sx
namespace Go.Sx
open Go.RowKit
mutual
theorem bk_inv (n : Nat) : ∀ x : C, bkC (fun i => i - n) (bkC (n + ·) x) = x
  | .sv b o m => by simp only [bkC, Nat.add_sub_cancel_left]
  | .gv b m s => by simp only [bkC, Nat.add_sub_cancel_left]
  | .bp b o => by simp only [bkC, Nat.add_sub_cancel_left]
  | .mp b => by simp only [bkC, Nat.add_sub_cancel_left]
  | .bt b t m => by simp only [bkC, Nat.add_sub_cancel_left]
  | .sl r m xs => by simp only [bkC, bks_inv n xs]
  | .kp xs => by simp only [bkC, bks_inv n xs]
  | .agg xs => by simp only [bkC, bks_inv n xs]
  | .tup xs => by simp only [bkC, bks_inv n xs]
  | .fn f xs => by simp only [bkC, bks_inv n xs]
  | .top => by simp only [bkC]
  | .val v => by simp only [bkC]
theorem bks_inv (n : Nat) : ∀ l : List C, bkCs (fun i => i - n) (bkCs (n + ·) l) = l
  | [] => by simp only [bkCs]
  | x :: l => by simp only [bkCs, bk_inv n x, bks_inv n l]
end
theorem bks_cancel {n : Nat} {l m : List C} (h : bkCs (n + ·) l = bkCs (n + ·) m) : l = m := by
  rw [← bks_inv n l, h, bks_inv]
theorem shH_cancel (n : Nat) : ∀ {h k : Hp}, shH n h = shH n k → h = k
  | [], [], _ => rfl
  | [], o :: k, e => by simp [shH] at e
  | o :: h, [], e => by simp [shH] at e
  | o :: h, p :: k, e => by
    simp only [shH_cons, List.cons.injEq] at e
    rw [shH_cancel n e.2]
    congr 1
    cases o with
    | none => cases p with
      | none => rfl
      | some q => simp at e
    | some r => cases p with
      | none => simp at e
      | some q => simp only [Option.map_some, Option.some.injEq] at e; rw [bks_cancel e.1]
theorem bks_get (r : Nat → Nat) : ∀ (l : List C) (j : Nat), (bkCs r l)[j]? = (l[j]?).map (bkC r)
  | [], j => by simp [bkCs]
  | x :: l, 0 => by simp [bkCs]
  | x :: l, j + 1 => by simp [bkCs, bks_get r l j]
theorem RepL.of_mem {G : Gh} : ∀ {l : List C} {vs : List Value} {x : C}, x ∈ l → RepL G l vs → ∃ v, Rep G x v
  | [], _, _, h, _ => by cases h
  | y :: l, vs, x, h, r => by
    simp only [RepL] at r
    obtain ⟨v, vs', _, h1, h2⟩ := r
    rcases List.mem_cons.1 h with rfl | h
    · exact ⟨v, h1⟩
    · exact RepL.of_mem h h2
theorem FC.neverB {P : Program} {gl : Nat → C} {f : Nat} {args : List C} {c : C} {h' : Hp} (he : Entered P f) (b o : Nat) (ha : C.bp b o ∈ args) : FC P gl f args [] c h' := by
  refine ⟨he, fun G w vs W _ _ hr => ?_⟩
  obtain ⟨v, hv⟩ := RepL.of_mem ha hr
  simp only [Rep] at hv
  obtain ⟨blk, h1, _⟩ := hv
  obtain ⟨⟨c, hc⟩, _⟩ := W.dom b blk h1
  cases hc
def OkH (h : Hp) : Prop := ∀ o ∈ h, okBox o = true
structure Small (P : Program) (gl : Nat → C) (f : Nat) (α : Type) where
  k : Nat
  j : Nat
  args : α → List C
  X : α → Hp
  r : α → C
  Y : α → Hp
  k0 : 0 < k
  hk : ∀ a, (X a).length = k
  hy : ∀ a, (Y a).length = k
  al : ∀ a, ∀ o ∈ X a, ((liveC o).isSome || (mpL o).isSome) = true
  nr : ∀ a, noRefs k (args a) = true
  nx : ∀ a, nrH k (X a) = true
  at0 : ∀ a, ∃ o, (args a)[j]? = some (.bp 0 o)
  inj : ∀ a b, args a = args b → X a = X b → r a = r b ∧ Y a = Y b
  fc : ∀ a, FC P gl f (args a) (X a) (r a) (Y a)
section
variable {P : Program} {gl : Nat → C} {f : Nat} {α : Type}
inductive SmD (α : Type) where
  | n (a : α) (pre suf : Hp) (h1 : OkH pre) (h2 : OkH suf)
  | e (xs : List C) (h : ∃ b o, C.bp b o ∈ xs)
def Small.enc (S : Small P gl f α) : SmD α → List C × Hp
  | .n a pre suf _ _ => (bkCs (pre.length + ·) (S.args a), pre ++ (shH pre.length (S.X a) ++ suf))
  | .e xs _ => (xs, [])
def Small.out (S : Small P gl f α) : SmD α → C × Hp
  | .n a pre suf _ _ => (bkC (midR pre.length S.k suf.length) (S.r a), pre ++ ((S.Y a).map (Option.map (bkCs (midR pre.length S.k suf.length))) ++ suf))
  | .e _ _ => (.top, [])
theorem shH_len (n : Nat) (h : Hp) : (shH n h).length = h.length := by simp [shH]
theorem Small.ij (S : Small P gl f α) (x y : SmD α) (h : S.enc x = S.enc y) : S.out x = S.out y := by
  cases x with
  | n a pre suf h1 h2 =>
    cases y with
    | n b pre' suf' h1' h2' =>
      simp only [Small.enc, Prod.mk.injEq] at h
      obtain ⟨e1, e2⟩ := h
      have hp : pre.length = pre'.length := by
        obtain ⟨o, ho⟩ := S.at0 a
        obtain ⟨o', ho'⟩ := S.at0 b
        have g1 := bks_get (pre.length + ·) (S.args a) S.j
        have g2 := bks_get (pre'.length + ·) (S.args b) S.j
        rw [e1, g2, ho, ho'] at g1
        simp only [Option.map_some, bkC, Option.some.injEq, C.bp.injEq, Nat.add_zero] at g1
        exact g1.1.symm
      obtain ⟨e3, e4⟩ := List.append_inj e2 hp
      subst e3
      obtain ⟨e5, e6⟩ := List.append_inj e4 (by rw [shH_len, shH_len, S.hk, S.hk])
      obtain ⟨q1, q2⟩ := S.inj a b (bks_cancel e1) (shH_cancel _ e5)
      subst e6
      simp only [Small.out, q1, q2]
    | e xs hx =>
      exfalso
      simp only [Small.enc, Prod.mk.injEq] at h
      have := congrArg List.length h.2
      simp only [List.length_append, shH_len, S.hk, List.length_nil] at this
      have := S.k0; omega
  | e xs hx =>
    cases y with
    | n b pre' suf' h1' h2' =>
      exfalso
      simp only [Small.enc, Prod.mk.injEq] at h
      have := congrArg List.length h.2
      simp only [List.length_append, shH_len, S.hk, List.length_nil] at this
      have := S.k0; omega
    | e ys hy => rfl
noncomputable def Small.tab (S : Small P gl f α) (hp : Nat → List C → Hp → Option (C × Hp)) : Nat → List C → Hp → Option (C × Hp) := extH hp f (tabH S.enc S.out)
theorem CxOK.sm {km : TypeId → Value → Bool} {pu : Nat → List C → Option C} {hp : Nat → List C → Hp → Option (C × Hp)} {N M : Nat} (hcx : CxOK ⟨P, N, gl, pu, hp, fun _ => false, km⟩) (he : Entered P f) (S : Small P gl f α) :
    CxOK ⟨P, M, gl, pu, S.tab hp, fun _ => false, km⟩ := CxOK.extH hcx fun a => by
  cases a with
  | n a pre suf h1 h2 =>
    have h := FC.mid (S.fc a) pre suf h1 h2 (S.al a) (by rw [S.hk]; exact S.nr a) (by rw [S.hk]; exact nrH_mem (S.nx a)) (by rw [S.hk, S.hy]; exact Nat.le_refl _) hcx.glo
    rw [S.hk, List.take_of_length_le (by rw [S.hy]; exact Nat.le_refl _), List.drop_of_length_le (by rw [S.hy]; exact Nat.le_refl _), List.map_nil, List.append_nil] at h
    exact h
  | e xs hx =>
    obtain ⟨b, o, hx⟩ := hx
    exact FC.neverB he b o hx
theorem Small.look (S : Small P gl f α) (hp : Nat → List C → Hp → Option (C × Hp)) (a : α) (pre suf : Hp) (h1 : OkH pre) (h2 : OkH suf) :
    S.tab hp f (bkCs (pre.length + ·) (S.args a)) (pre ++ (shH pre.length (S.X a) ++ suf)) = some (bkC (midR pre.length S.k suf.length) (S.r a), pre ++ ((S.Y a).map (Option.map (bkCs (midR pre.length S.k suf.length))) ++ suf)) :=
  (extH_hit _ _).trans (tabH_enc S.ij (.n a pre suf h1 h2))
theorem Small.never (S : Small P gl f α) (hp : Nat → List C → Hp → Option (C × Hp)) (xs : List C) (h : ∃ b o, C.bp b o ∈ xs) : S.tab hp f xs [] = some (.top, []) :=
  (extH_hit _ _).trans (tabH_enc S.ij (.e xs h))
theorem Small.miss (S : Small P gl f α) (hp : Nat → List C → Hp → Option (C × Hp)) {g : Nat} (h : g ≠ f) (xs : List C) (k : Hp) : S.tab hp g xs k = hp g xs k := extH_miss h xs k
end
theorem OkH.nil : OkH [] := fun o h => by cases h
theorem OkH.cons {o : Option (List C)} {h : Hp} (h1 : okBox o = true) (h2 : OkH h) : OkH (o :: h) := fun p hp => by
  rcases List.mem_cons.1 hp with rfl | hp
  · exact h1
  · exact h2 p hp
mutual
theorem bk_flat (r : Nat → Nat) : ∀ c : C, flat c = true → bkC r c = c
  | .val _, _ => by simp only [bkC]
  | .agg xs, h => by simp only [flat] at h; simp only [bkC, bks_flat r xs h]
  | .tup xs, h => by simp only [flat] at h; simp only [bkC, bks_flat r xs h]
  | .top, h => by simp [flat] at h
  | .sl _ _ _, h => by simp [flat] at h
  | .sv _ _ _, h => by simp [flat] at h
  | .gv _ _ _, h => by simp [flat] at h
  | .bp _ _, h => by simp [flat] at h
  | .bt _ _ _, h => by simp [flat] at h
  | .mp _, h => by simp [flat] at h
  | .kp _, h => by simp [flat] at h
  | .fn _ _, h => by simp [flat] at h
theorem bks_flat (r : Nat → Nat) : ∀ l : List C, flats l = true → bkCs r l = l
  | [], _ => by simp only [bkCs]
  | x :: xs, h => by simp only [flats, Bool.and_eq_true] at h; simp only [bkCs, bk_flat r x h.1, bks_flat r xs h.2]
end
theorem bks_cl (r : Nat → Nat) {α : Type} (f : α → List C) [h : Fla f] (l : List α) : bkCs r (cl f l) = cl f l := bks_flat r _ (flats_cl f l)
theorem bk_sl (r : Nat → Nat) {α : Type} (f : α → List C) [h : Fla f] (q : Rt) (l : List α) : bkC r (sl f q l) = sl f q l := by unfold sl; simp only [bkC, bks_cl]
end Go.Sx
namespace Go.Sx
open Go.RowKit Go.Proofs
set_option maxRecDepth 100000
set_option maxHeartbeats 8000000
noncomputable def cxR (gl : Nat → C) (M : Nat) (pu : Nat → List C → Option C) (hp : Nat → List C → Hp → Option (C × Hp)) : Cx := ⟨Tryd.prog, M, gl, pu, hp, fun _ => false, fun _ _ => false⟩
section
variable {gl : Nat → C} {M : Nat} {pu : Nat → List C → Option C} {hp : Nat → List C → Hp → Option (C × Hp)}
theorem cxR_P : (cxR gl M pu hp).P = Tryd.prog := rfl
theorem cxR_N : (cxR gl M pu hp).N = M := rfl
theorem cxR_pu : (cxR gl M pu hp).pu = pu := rfl
theorem cxR_hp : (cxR gl M pu hp).hp = hp := rfl
theorem cxR_gr (d : Option Nat) : isG (cxR gl M pu hp) d = false := by cases d <;> rfl
end
theorem hMOR {gl : Nat → C} {M : Nat} {pu : Nat → List C → Option C} {hp : Nat → List C → Hp → Option (C × Hp)} : (cxR gl M pu hp).P.follows .mixedOrders = true := hMO (gl := gl) (M := M) (pu := pu)
attribute [go_sem] cxR_P cxR_N cxR_pu cxR_hp cxR_gr
abbrev TS := List (List UInt8) × Nat × Bool
def sidR (S : List Dig) (st : TS) : List UInt8 × TS := if S.length ≤ st.2.1 then (List.replicate 16 0, (st.1, st.2.1, true)) else ((gt S st.2.1).1, (st.1, st.2.1 + 1, st.2.2))
def lefR (x : Leaf) (st : TS) : List UInt8 × TS := (lefT x, (st.1 ++ [inp 3 [x.1, x.2]], st.2))
def nodR (x : List UInt8) (y : List UInt8 × TS) : List UInt8 × TS := (nodT x y.1, (y.2.1 ++ [inp 4 [x, y.1]], y.2.2))
def rowR (l : List Leaf) (f : Nat) (S : List Dig) : Nat → Nat → Nat → TS → List UInt8 × TS
  | 0, a, b, st => if b ≤ f ∨ f + l.length ≤ a then sidR S st else lefR (gt l (a - f)) st
  | d + 1, a, b, st => if b ≤ f ∨ f + l.length ≤ a then sidR S st else if b - a ≤ 1 then lefR (gt l (a - f)) st
      else nodR (rowR l f S d a (a + halfT (b - a)) st).1 (rowR l f S d (a + halfT (b - a)) b (rowR l f S d a (a + halfT (b - a)) st).2)
section
variable {l : List Leaf} {f : Nat} {S : List Dig} {d a b : Nat} {st : TS}
theorem rowR_s (h : b ≤ f ∨ f + l.length ≤ a) : rowR l f S d a b st = sidR S st := by cases d <;> simp only [rowR, if_pos h]
theorem rowR_l (h : ¬ (b ≤ f ∨ f + l.length ≤ a)) (h2 : b - a ≤ 1) : rowR l f S d a b st = lefR (gt l (a - f)) st := by cases d <;> simp only [rowR, if_neg h, if_pos h2]
theorem rowR_n (h : ¬ (b ≤ f ∨ f + l.length ≤ a)) (h2 : ¬ b - a ≤ 1) : rowR l f S (d + 1) a b st = nodR (rowR l f S d a (a + halfT (b - a)) st).1 (rowR l f S d (a + halfT (b - a)) b (rowR l f S d a (a + halfT (b - a)) st).2) := by simp only [rowR, if_neg h, if_neg h2]
theorem sidR_1 (h : S.length ≤ st.2.1) : sidR S st = (List.replicate 16 0, (st.1, st.2.1, true)) := if_pos h
theorem sidR_2 (h : ¬ S.length ≤ st.2.1) : sidR S st = ((gt S st.2.1).1, (st.1, st.2.1 + 1, st.2.2)) := if_neg h
theorem sidR_len : (sidR S st).1.length = 16 := by unfold sidR; split; rfl; exact (gt S st.2.1).2
end
theorem rowR_len (l : List Leaf) (f : Nat) (S : List Dig) : ∀ d a b st, (rowR l f S d a b st).1.length = 16
  | 0, a, b, st => by unfold rowR; split; exact sidR_len; exact lefT_len _
  | d + 1, a, b, st => by
    unfold rowR; split
    · exact sidR_len
    · split
      · exact lefT_len _
      · exact nodT_len _ _
theorem rowR_bd (l : List Leaf) (f : Nat) (S : List Dig) : ∀ d a b st, (rowR l f S d a b st).2.1.length + 1 ≤ st.1.length + 2 ^ (d + 1) ∧ (rowR l f S d a b st).2.2.1 ≤ max st.2.1 S.length ∧ (st.2.1 ≤ (rowR l f S d a b st).2.2.1)
  | 0, a, b, st => by
    unfold rowR; split
    · unfold sidR; split <;> (simp only []; omega)
    · simp only [lefR, List.length_append, List.length_singleton]; omega
  | d + 1, a, b, st => by
    have e : 2 ^ (d + 1 + 1) = 2 * 2 ^ (d + 1) := by rw [Nat.pow_succ]; omega
    have hp := Nat.two_pow_pos (d + 1)
    unfold rowR; split
    · unfold sidR; split <;> (simp only []; omega)
    · split
      · simp only [lefR, List.length_append, List.length_singleton]; omega
      · have h1 := rowR_bd l f S d a (a + halfT (b - a)) st
        have h2 := rowR_bd l f S d (a + halfT (b - a)) b (rowR l f S d a (a + halfT (b - a)) st).2
        simp only [nodR, List.length_append, List.length_singleton]
        omega
def rooR (l : List Leaf) (f : Nat) (S : List Dig) (n : Nat) (st : TS) : List UInt8 × TS :=
  if n = 0 then (ofT 4 [wint ((0 : Nat) : Int)], (st.1 ++ [inp 4 [wint ((0 : Nat) : Int)]], st.2))
  else let x := rowR l f S 12 0 n st; (ofT 4 [wint ((n : Nat) : Int), x.1], (x.2.1 ++ [inp 4 [wint ((n : Nat) : Int), x.1]], x.2.2))
theorem rooR_0 {l : List Leaf} {f : Nat} {S : List Dig} {st : TS} {n : Nat} (h : n = 0) : rooR l f S n st = (ofT 4 [wint ((n : Nat) : Int)], (st.1 ++ [inp 4 [wint ((n : Nat) : Int)]], st.2)) := by subst h; exact if_pos rfl
theorem rooR_n {l : List Leaf} {f : Nat} {S : List Dig} {st : TS} {n : Nat} (h : ¬ n = 0) : rooR l f S n st = (ofT 4 [wint ((n : Nat) : Int), (rowR l f S 12 0 n st).1], ((rowR l f S 12 0 n st).2.1 ++ [inp 4 [wint ((n : Nat) : Int), (rowR l f S 12 0 n st).1]], (rowR l f S 12 0 n st).2.2)) := if_neg h
theorem rooR_bd (l : List Leaf) (f : Nat) (S : List Dig) (n : Nat) (st : TS) : (rooR l f S n st).2.1.length ≤ st.1.length + 8192 ∧ (rooR l f S n st).2.2.1 ≤ max st.2.1 S.length := by
  have h1 := rowR_bd l f S 12 0 n st
  have e : 2 ^ (12 + 1) = 8192 := rfl
  unfold rooR; split
  · simp only [List.length_append, List.length_singleton]; omega
  · simp only [List.length_append, List.length_singleton]; omega
def LZ (l : List Leaf) : Prop := l.length ≤ 5000 ∧ ∀ i, i < l.length → (gt l i).1.length < 1000000 ∧ (gt l i).2.length < 1000000
theorem OkL.lz {l : List Leaf} (h : OkL l) : LZ l := ⟨by have := h.1; omega, fun i hi => by have := h.2 i hi; omega⟩
theorem tre_nr (T : List (List UInt8)) (S : List Dig) (u : Nat) (sh : Bool) : nrH 1 [some [sl sC (.own 1) T, sl dC .no S, .val (nI u), .val (.bool sh)]] = true := by simp only [nrH_some, nrH_nil, go_sem, Bool.and_self]
theorem X_fc86 {p : Prop} (e : p := by intro KZ hZ; simp -implicitDefEqProofs (disch := first | omega | (simp only [go_sem, lA, lD, lT, ofT_len, hsl] <;> omega) | decide) only [go_sem, ↓reduceIte, Nat.reduceEqDiff, reduceCtorEq, Nat.reduceLT, Nat.reduceBEq, Nat.reduceAdd, e65, e64, hy]; with_reducible exact hZ) : p := e
theorem Y_fc86 {p : Prop} (e : p := by intro KZ hZ; simp -implicitDefEqProofs (disch := first | omega | (simp only [go_sem, lA, lD, lT, ofT_len, hsl] <;> omega) | decide) only [go_sem, ↓reduceIte, Nat.reduceEqDiff, reduceCtorEq, Nat.reduceLT, Nat.reduceBEq, Nat.reduceAdd, e65, e64, hy]; with_reducible refine And.intro ?_ hZ; first | exact rfl | decide) : p := e
theorem F_fc86 {p : Prop} (e : p := by simp -implicitDefEqProofs (disch := first | omega | (simp only [go_sem, lA, lD, lT, ofT_len, hsl] <;> omega) | decide) only [go_sem, ↓reduceIte, Nat.reduceEqDiff, reduceCtorEq]; all_goals (rfl)) : p := e
theorem fc86 {gl : Nat → C} {M : Nat} {pu : Nat → List C → Option C} {hp : Nat → List C → Hp → Option (C × Hp)} (hcx : CxOK (cxR gl M pu hp))  (h65 : ∀ (tag : Int) (parts : List (List UInt8)), (inp tag parts).length < 1099511627776 → pu 65 [.val (.int .i64 tag), sl sC .no parts] = some (sl bC (.own 1) (inp tag parts))) (h64 : ∀ b : List UInt8, b.length < 35184372088832 → pu 64 [sl bC .no b] = some (.agg (cl bC ((sha b).take 16)))) (T : List (List UInt8)) (S : List Dig) (u : Nat) (sh : Bool) (tag : Int) (parts : List (List UInt8)) (hT : T.length ≤ 1000000) (hi : (inp tag parts).length < 1099511627776) : FC Tryd.prog gl 86 [.bp 0 0, .val (.int .i64 tag), sl sC .no parts] [some [sl sC (.own 1) (T), sl dC .no S, .val (nI (u)), .val (.bool (sh))]] (.agg (cl bC (ofT tag parts))) [some [sl sC (.own 1) (T ++ [inp tag parts]), sl dC .no S, .val (nI (u)), .val (.bool (sh))]] := by
 replace hcx := hcx.reN (M := 24)
 refine FC.ofT (cx := cxR gl 24 pu hp) (rs := [.cell 6 29]) rfl Tryd.func86 rfl rfl rfl (by simp only [List.length_cons, List.length_nil]; decide) (by simp only [go_sem]) (tre_nr _ _ _ _) ?_
 simp only [ini, go_sem]
 have hy := True.intro
 have e65 := h65 tag parts hi
 have e64 : pu 64 [sl bC .no (inp tag parts)] = some (.agg (cl bC (ofT tag parts))) := h64 _ (by omega)
 have hsl : ((sha (inp tag parts)).take 16).length = 16 := ofT_len tag parts
 refine Tr.w hcx [] _ [none] rfl rfl rfl ?_ X_fc86
 refine Tr.w hcx [1000010] _ [] rfl rfl rfl ?_ X_fc86
 refine Tr.wD hcx hMOR [15] _ [] rfl rfl rfl rfl ?_ Y_fc86
 refine Tr.w hcx [] _ [] rfl rfl rfl ?_ X_fc86
 exact Tr.ret F_fc86
end Go.Sx
namespace Go.Sx
open Go.RowKit Go.Proofs
set_option maxRecDepth 100000
set_option maxHeartbeats 8000000
theorem okB_cl (p : List UInt8) : okBox (some (cl bC p)) = true := by cases p <;> rfl
theorem X_fc85z {p : Prop} (e : p := by intro KZ hZ; simp -implicitDefEqProofs (disch := first | omega | (simp only [go_sem, lA, lD, lT, lefT_len, hgl, ofT_len, nodT_len] <;> omega) | decide) only [go_sem, ↓reduceIte, Nat.reduceEqDiff, reduceCtorEq, Nat.reduceLT, Nat.reduceBEq, Nat.reduceAdd, ep86, en86, b1, b2, hy]; with_reducible exact hZ) : p := e
theorem Y_fc85z {p : Prop} (e : p := by intro KZ hZ; simp -implicitDefEqProofs (disch := first | omega | (simp only [go_sem, lA, lD, lT, lefT_len, hgl, ofT_len, nodT_len] <;> omega) | decide) only [go_sem, ↓reduceIte, Nat.reduceEqDiff, reduceCtorEq, Nat.reduceLT, Nat.reduceBEq, Nat.reduceAdd, ep86, en86, b1, b2, hy]; with_reducible refine And.intro ?_ hZ; first | exact rfl | decide) : p := e
theorem F_fc85z {p : Prop} (e : p := by simp -implicitDefEqProofs (disch := first | omega | (simp only [go_sem, lA, lD, lT, lefT_len, hgl, ofT_len, nodT_len] <;> omega) | decide) only [go_sem, ↓reduceIte, Nat.reduceEqDiff, reduceCtorEq]; all_goals (first | (simp only [hR]; done) | (rw [hR]; exact ⟨rfl, rfl⟩) | (rw [hR]))) : p := e
theorem fc85z {gl : Nat → C} {M0 : Nat} {pu : Nat → List C → Option C} {hp : Nat → List C → Hp → Option (C × Hp)} (hcx : CxOK (cxR gl M0 pu hp)) (l : List Leaf) (f : Nat) (S : List Dig) (T : List (List UInt8)) (u : Nat) (sh : Bool) (d a b : Nat) (hl : LZ l) (hf : f ≤ 5000) (hS : S.length ≤ 1000000) (hu : u ≤ S.length) (hT : T.length ≤ 900000 - 2 ^ (d + 1)) (hd : d ≤ 12) (hab : a < b ∧ b ≤ 5000 ∧ b - a ≤ 2 ^ d) (hz : b ≤ f ∨ f + l.length ≤ a ∨ b - a ≤ 1)  (hnr : ∀ (g : Nat) (xs : List C), noRefs 0 xs = false → pu g xs = none) (hn86 : ∀ xs : List C, (∃ b o, C.bp b o ∈ xs) → hp 86 xs [] = some (.top, [])) (hq86 : ∀ (suf : Hp) (T : List (List UInt8)) (S : List Dig) (u : Nat) (sh : Bool) (tag : Int) (parts : List (List UInt8)), OkH suf → T.length ≤ 1000000 → (inp tag parts).length < 1099511627776 → hp 86 [.bp 0 0, .val (.int .i64 tag), sl sC .no parts] ([some [sl sC (.own 1) (T), sl dC .no S, .val (nI (u)), .val (.bool (sh))]] ++ suf) = some (.agg (cl bC (ofT tag parts)), [some [sl sC (.own 1) (T ++ [inp tag parts]), sl dC .no S, .val (nI (u)), .val (.bool (sh))]] ++ suf)) : FC Tryd.prog gl 85 [.bp 0 0, sl eC .no l, .val (nI f), .val (nI a), .val (nI b)] [some [sl sC (.own 1) (T), sl dC .no S, .val (nI (u)), .val (.bool (sh))]] (.agg (cl bC (rowR l f S d a b (T, u, sh)).1)) [some [sl sC (.own 1) ((rowR l f S d a b (T, u, sh)).2.1), sl dC .no S, .val (nI ((rowR l f S d a b (T, u, sh)).2.2.1)), .val (.bool ((rowR l f S d a b (T, u, sh)).2.2.2))]] := by
 replace hcx := hcx.reN (M := 104)
 refine FC.ofT (cx := cxR gl 104 pu hp) (rs := [.cell 10 29]) rfl Tryd.func85 rfl rfl rfl (by simp only [List.length_cons, List.length_nil]; decide) (by simp only [go_sem]) (tre_nr _ _ _ _) ?_
 simp only [ini, go_sem]
 have b1 := True.intro
 have b2 := True.intro
 have hy := True.intro
 have hgl := fun k => (gt S k).2
 have hll := hl.1
 have en86 : ∀ (tag : Nat) (parts : List (List UInt8)), hp 86 [.bp 0 0, .val (nI tag), sl sC .no parts] [] = some (.top, []) := fun tag parts => hn86 _ ⟨0, 0, by simp⟩
 have ep86 : ∀ (tag : Nat) (parts : List (List UInt8)), pu 86 [.bp 0 0, .val (nI tag), sl sC .no parts] = none := fun tag parts => hnr 86 _ rfl
 refine Tr.w hcx [] _ [none] rfl rfl rfl ?_ X_fc85z
 refine Tr.seqK fun K1 hK1 => ?_
 by_cases b1 : b ≤ f
 ·
  refine Tr.w hcx [] [some 14, some 15, some 16, some 17, some 18, some 19, some 20, some 21, some 22, some 23, some 24] [] rfl rfl rfl ?_ X_fc85z
  refine Tr.cT rfl ?_
  refine Tr.seqK fun K2 hK2 => ?_
  have hR0 := rowR_s (l := l) (S := S) (d := d) (a := a) (b := b) (st := (T, u, sh)) (Or.inl b1)
  refine Tr.wD hcx hMOR [] _ [] rfl rfl rfl rfl ?_ Y_fc85z
  refine Tr.k [0, 10, 34] ?_
  refine Tr.cD rfl (fun hc34 => ?_) (fun hc34 => ?_)
  ·
   have hR := hR0.trans (sidR_1 hc34)
   refine Tr.w hcx [] _ [] rfl rfl rfl ?_ X_fc85z
   refine Tr.w hcx [] _ [] rfl rfl rfl ?_ X_fc85z
   exact Tr.ret F_fc85z
  have hR := hR0.trans (sidR_2 hc34)
  refine Tr.skip ?_
  refine hK2 _ ?_
  refine Tr.w hcx [] _ [] rfl rfl rfl ?_ X_fc85z
  refine Tr.wD hcx hMOR [] _ [] rfl rfl rfl rfl ?_ Y_fc85z
  exact Tr.ret F_fc85z
 by_cases b2 : f + l.length ≤ a
 ·
  refine Tr.w hcx [] [some 14, some 15, some 16, some 17, some 18, some 19, some 20, some 21, some 22, some 23, some 24] [] rfl rfl rfl ?_ X_fc85z
  refine Tr.cT rfl ?_
  refine Tr.seqK fun K3 hK3 => ?_
  have hR0 := rowR_s (l := l) (S := S) (d := d) (a := a) (b := b) (st := (T, u, sh)) (Or.inr b2)
  refine Tr.wD hcx hMOR [] _ [] rfl rfl rfl rfl ?_ Y_fc85z
  refine Tr.k [0, 10, 34] ?_
  refine Tr.cD rfl (fun hc34 => ?_) (fun hc34 => ?_)
  ·
   have hR := hR0.trans (sidR_1 hc34)
   refine Tr.w hcx [] _ [] rfl rfl rfl ?_ X_fc85z
   refine Tr.w hcx [] _ [] rfl rfl rfl ?_ X_fc85z
   exact Tr.ret F_fc85z
  have hR := hR0.trans (sidR_2 hc34)
  refine Tr.skip ?_
  refine hK3 _ ?_
  refine Tr.w hcx [] _ [] rfl rfl rfl ?_ X_fc85z
  refine Tr.wD hcx hMOR [] _ [] rfl rfl rfl rfl ?_ Y_fc85z
  exact Tr.ret F_fc85z
 refine Tr.w hcx [] [some 14, some 15, some 16, some 17, some 18, some 19, some 20, some 21, some 22, some 23, some 24] [] rfl rfl rfl ?_ X_fc85z
 refine Tr.cF rfl ?_
 refine Tr.skip ?_
 refine hK1 _ ?_
 refine Tr.seqK fun K4 hK4 => ?_
 have h61 : b - a = 1 := by omega
 have hR := rowR_l (l := l) (f := f) (S := S) (d := d) (st := (T, u, sh)) (fun h => h.elim b1 b2) (show b - a ≤ 1 by omega)
 have hlb := hl.2 (a - f) (by omega)
 have e86 := hq86 [some (cl bC (List.replicate 16 0))] T S u sh 3 [(gt l (a - f)).1, (gt l (a - f)).2] (OkH.cons (by rw [okB_cl]) OkH.nil) (by omega) (inp_len2 3 _ _ (by omega) (by omega))
 change hp 86 [C.bp 0 0, .val (nI 3), sl sC .no _] _ = some (C.agg (cl bC (lefT (gt l (a - f)))), _) at e86
 simp only [List.cons_append, List.nil_append] at e86
 have hy := @h61
 refine Tr.w hcx [] _ [] rfl rfl rfl ?_ X_fc85z
 refine Tr.cT rfl ?_
 have hy := And.intro @e86 @rep2s
 refine Tr.wD hcx hMOR [] _ [] rfl rfl rfl rfl ?_ Y_fc85z
 refine Tr.k [10] ?_
 exact Tr.ret F_fc85z
theorem X_fc85s {p : Prop} (e : p := by intro KZ hZ; simp -implicitDefEqProofs (disch := first | omega | (simp only [go_sem, lA, lD, lT, lefT_len, hgl, ofT_len, nodT_len, hx1, hx2] <;> omega) | decide) only [go_sem, ↓reduceIte, Nat.reduceEqDiff, reduceCtorEq, Nat.reduceLT, Nat.reduceBEq, Nat.reduceAdd, ep86, en86, ep85, en85, hy]; with_reducible exact hZ) : p := e
theorem Y_fc85s {p : Prop} (e : p := by intro KZ hZ; simp -implicitDefEqProofs (disch := first | omega | (simp only [go_sem, lA, lD, lT, lefT_len, hgl, ofT_len, nodT_len, hx1, hx2] <;> omega) | decide) only [go_sem, ↓reduceIte, Nat.reduceEqDiff, reduceCtorEq, Nat.reduceLT, Nat.reduceBEq, Nat.reduceAdd, ep86, en86, ep85, en85, hy]; with_reducible refine And.intro ?_ hZ; first | exact rfl | decide) : p := e
theorem F_fc85s {p : Prop} (e : p := by simp -implicitDefEqProofs (disch := first | omega | (simp only [go_sem, lA, lD, lT, lefT_len, hgl, ofT_len, nodT_len, hx1, hx2] <;> omega) | decide) only [go_sem, ↓reduceIte, Nat.reduceEqDiff, reduceCtorEq]; all_goals (first | (simp only [hR]; done) | (rw [hR]; exact ⟨rfl, rfl⟩) | (rw [hR]))) : p := e
theorem fc85s {gl : Nat → C} {M0 : Nat} {pu : Nat → List C → Option C} {hp : Nat → List C → Hp → Option (C × Hp)} (hcx : CxOK (cxR gl M0 pu hp)) (l : List Leaf) (f : Nat) (S : List Dig) (T : List (List UInt8)) (u : Nat) (sh : Bool) (d a b : Nat) (hl : LZ l) (hf : f ≤ 5000) (hS : S.length ≤ 1000000) (hu : u ≤ S.length) (hT : T.length ≤ 900000 - 2 ^ ((d + 1) + 1)) (hd : (d + 1) ≤ 12) (hab : a < b ∧ b ≤ 5000 ∧ b - a ≤ 2 ^ (d + 1)) (hq85 : ∀ (suf : Hp) (T : List (List UInt8)) (u : Nat) (sh : Bool) (a b : Nat), OkH suf → T.length ≤ 900000 - 2 ^ (d + 1) → u ≤ S.length → a < b ∧ b - a ≤ 2 ^ d ∧ b ≤ 5000 → hp 85 [.bp 0 0, sl eC .no l, .val (nI f), .val (nI a), .val (nI b)] ([some [sl sC (.own 1) (T), sl dC .no S, .val (nI (u)), .val (.bool (sh))]] ++ suf) = some (.agg (cl bC (rowR l f S d a b (T, u, sh)).1), [some [sl sC (.own 1) ((rowR l f S d a b (T, u, sh)).2.1), sl dC .no S, .val (nI ((rowR l f S d a b (T, u, sh)).2.2.1)), .val (.bool ((rowR l f S d a b (T, u, sh)).2.2.2))]] ++ suf)) (hz1 : ¬ b ≤ f) (hz2 : ¬ f + l.length ≤ a) (hz3 : ¬ b - a ≤ 1)  (hnr : ∀ (g : Nat) (xs : List C), noRefs 0 xs = false → pu g xs = none) (hn86 : ∀ xs : List C, (∃ b o, C.bp b o ∈ xs) → hp 86 xs [] = some (.top, [])) (hq86 : ∀ (suf : Hp) (T : List (List UInt8)) (S : List Dig) (u : Nat) (sh : Bool) (tag : Int) (parts : List (List UInt8)), OkH suf → T.length ≤ 1000000 → (inp tag parts).length < 1099511627776 → hp 86 [.bp 0 0, .val (.int .i64 tag), sl sC .no parts] ([some [sl sC (.own 1) (T), sl dC .no S, .val (nI (u)), .val (.bool (sh))]] ++ suf) = some (.agg (cl bC (ofT tag parts)), [some [sl sC (.own 1) (T ++ [inp tag parts]), sl dC .no S, .val (nI (u)), .val (.bool (sh))]] ++ suf)) (hn85 : ∀ xs : List C, (∃ b o, C.bp b o ∈ xs) → hp 85 xs [] = some (.top, [])) (h84 : ∀ h : List UInt8, h.length = 16 → pu 84 [.agg (cl bC h)] = some (.val (str h))) (h106 : ∀ n : Nat, n ≤ 4611686018427387000 → pu 106 [.val (nI n)] = some (.val (nI (halfT n)))) : FC Tryd.prog gl 85 [.bp 0 0, sl eC .no l, .val (nI f), .val (nI a), .val (nI b)] [some [sl sC (.own 1) (T), sl dC .no S, .val (nI (u)), .val (.bool (sh))]] (.agg (cl bC (rowR l f S (d + 1) a b (T, u, sh)).1)) [some [sl sC (.own 1) ((rowR l f S (d + 1) a b (T, u, sh)).2.1), sl dC .no S, .val (nI ((rowR l f S (d + 1) a b (T, u, sh)).2.2.1)), .val (.bool ((rowR l f S (d + 1) a b (T, u, sh)).2.2.2))]] := by
 replace hcx := hcx.reN (M := 104)
 refine FC.ofT (cx := cxR gl 104 pu hp) (rs := [.cell 10 29]) rfl Tryd.func85 rfl rfl rfl (by simp only [List.length_cons, List.length_nil]; decide) (by simp only [go_sem]) (tre_nr _ _ _ _) ?_
 simp only [ini, go_sem]
 have hy := True.intro
 have hgl := fun k => (gt S k).2
 have hll := hl.1
 have en86 : ∀ (tag : Nat) (parts : List (List UInt8)), hp 86 [.bp 0 0, .val (nI tag), sl sC .no parts] [] = some (.top, []) := fun tag parts => hn86 _ ⟨0, 0, by simp⟩
 have ep86 : ∀ (tag : Nat) (parts : List (List UInt8)), pu 86 [.bp 0 0, .val (nI tag), sl sC .no parts] = none := fun tag parts => hnr 86 _ rfl
 have en85 : ∀ x y : Nat, hp 85 [.bp 0 0, sl eC .no l, .val (nI f), .val (nI x), .val (nI y)] [] = some (.top, []) := fun x y => hn85 _ ⟨0, 0, by simp⟩
 have ep85 : ∀ x y : Nat, pu 85 [.bp 0 0, sl eC .no l, .val (nI f), .val (nI x), .val (nI y)] = none := fun x y => hnr 85 _ rfl
 have b1 := hz1
 have b2 := hz2
 have h61 : (b - a = 1) = False := eq_false (by omega)
 have hx1 := True.intro
 have hx2 := True.intro
 refine Tr.w hcx [] _ [none] rfl rfl rfl ?_ X_fc85s
 refine Tr.seqK fun K1 hK1 => ?_
 have hy := And.intro @b1 @b2
 refine Tr.w hcx [] [some 14, some 15, some 16, some 17, some 18, some 19, some 20, some 21, some 22, some 23, some 24] [] rfl rfl rfl ?_ X_fc85s
 refine Tr.cF rfl ?_
 refine Tr.skip ?_
 refine hK1 _ ?_
 refine Tr.seqK fun K2 hK2 => ?_
 have hy := @h61
 refine Tr.w hcx [] _ [] rfl rfl rfl ?_ X_fc85s
 refine Tr.cF rfl ?_
 refine Tr.skip ?_
 refine hK2 _ ?_
 refine Tr.k [0, 1, 2, 3, 4, 10] ?_
 have e106 := h106 (b - a) (by omega)
 have hh := half_lt (n := b - a) (by omega)
 have hh2 := half_le (by omega) hab.2.2
 have hp2 : 2 ^ (d + 1 + 1) = 2 * 2 ^ (d + 1) := by rw [Nat.pow_succ]; omega
 have hp3 : 2 ^ (d + 1) ≤ 2 ^ 12 := Nat.pow_le_pow_right (by omega) hd
 have hB1 := rowR_bd l f S d a (a + halfT (b - a)) (T, u, sh)
 dsimp only at hB1
 have e1 := hq85 [some (cl bC (List.replicate 16 0)), none] T u sh a (a + halfT (b - a)) (OkH.cons (okB_cl _) (OkH.cons rfl OkH.nil)) (by omega) hu (by omega)
 obtain ⟨X, hX⟩ : ∃ X, X = rowR l f S d a (a + halfT (b - a)) (T, u, sh) := ⟨_, rfl⟩
 have hXl : X.1.length = 16 := by rw [hX]; exact rowR_len _ _ _ _ _ _ _
 rw [← hX] at e1 hB1
 have hx1 := hXl
 have e2 := hq85 [some (cl bC (List.replicate 16 0)), some (cl bC X.1), none] X.2.1 X.2.2.1 X.2.2.2 (a + halfT (b - a)) b (OkH.cons (okB_cl _) (OkH.cons (okB_cl _) (OkH.cons rfl OkH.nil))) (by omega) (by omega) (by omega)
 obtain ⟨Y, hY⟩ : ∃ Y, Y = rowR l f S d (a + halfT (b - a)) b X.2 := ⟨_, rfl⟩
 have hYl : Y.1.length = 16 := by rw [hY]; exact rowR_len _ _ _ _ _ _ _
 have hB2 := rowR_bd l f S d (a + halfT (b - a)) b X.2
 have eY : rowR l f S d (a + halfT (b - a)) b (X.2.1, X.2.2.1, X.2.2.2) = Y := hY.symm
 rw [← hY] at hB2
 rw [eY] at e2
 have hx2 := hYl
 have e84a := h84 X.1 hXl
 have e84b := h84 Y.1 hYl
 have e86 := hq86 [some (cl bC (List.replicate 16 0)), some (cl bC X.1), some (cl bC Y.1)] Y.2.1 S Y.2.2.1 Y.2.2.2 4 [X.1, Y.1] (OkH.cons (okB_cl _) (OkH.cons (okB_cl _) (OkH.cons (okB_cl _) OkH.nil))) (by omega) (inp_len2 4 _ _ (by omega) (by omega))
 change hp 86 [C.bp 0 0, .val (nI 4), sl sC .no _] _ = some (C.agg (cl bC (nodT X.1 Y.1)), _) at e86
 simp only [List.cons_append, List.nil_append] at e1 e2 e86
 have hR := rowR_n (l := l) (f := f) (S := S) (d := d) (st := (T, u, sh)) (fun h => h.elim b1 b2) hz3
 rw [← hX, ← hY, nodR] at hR
 have hy := @e106
 refine Tr.w hcx [1000084] _ [] rfl rfl rfl ?_ X_fc85s
 have hy := @e1
 refine Tr.w hcx [] _ [none] rfl rfl rfl ?_ X_fc85s
 refine Tr.k [0, 1, 2, 4, 10, 11, 12] ?_
 have hy := @e2
 refine Tr.w hcx [] _ [none] rfl rfl rfl ?_ X_fc85s
 have hy := And.intro @e84a (And.intro @e84b (And.intro @rep2s @e86))
 refine Tr.wD hcx hMOR [] _ [] rfl rfl rfl rfl ?_ Y_fc85s
 exact Tr.ret F_fc85s
end Go.Sx
namespace Go.Sx
open Go.RowKit Go.Proofs
set_option maxRecDepth 100000
set_option maxHeartbeats 8000000
theorem rep1s (x : List UInt8) : (List.replicate 1 []).set 0 x = [x] := rfl
theorem OkZ : OkH [some (cl bC (List.replicate 16 0))] := OkH.cons (okB_cl _) OkH.nil
theorem rowR_all (l : List Leaf) (S : List Dig) : ∀ d a b st, a < b → b ≤ l.length → (rowR l 0 S d a b st).1 = (if b - a ≤ 2 ^ d then rowD l d a b else (rowR l 0 S d a b st).1)
  | 0, a, b, st, h1, h2 => by
    split
    · rename_i h
      rw [rowR_l (by omega) (by simpa using h)]; rfl
    · rfl
  | d + 1, a, b, st, h1, h2 => by
    split
    · rename_i h
      by_cases e : b - a ≤ 1
      · rw [rowR_l (by omega) e, rowD_1 e]; rfl
      · have hh := half_lt (n := b - a) (by omega)
        have hh2 := half_le (by omega) h
        rw [rowR_n (by omega) e, rowD_2 e, nodR]
        have g1 := rowR_all l S d a (a + halfT (b - a)) st (by omega) (by omega)
        have g2 := rowR_all l S d (a + halfT (b - a)) b (rowR l 0 S d a (a + halfT (b - a)) st).2 (by omega) (by omega)
        rw [if_pos (by omega)] at g1 g2
        rw [g1, g2]
    · rfl
theorem rowR_D {l : List Leaf} {S : List Dig} {d a b : Nat} {st : TS} (h : a < b ∧ b ≤ l.length ∧ b - a ≤ 2 ^ d) : (rowR l 0 S d a b st).1 = rowD l d a b := by
  rw [rowR_all l S d a b st h.1 h.2.1, if_pos h.2.2]
theorem X_fc52 {p : Prop} (e : p := by intro KZ hZ; simp -implicitDefEqProofs (disch := first | omega | (simp only [go_sem, lA, lD, lT, hwl, hx1, ofT_len] <;> omega) | decide) only [go_sem, ↓reduceIte, Nat.reduceEqDiff, reduceCtorEq, Nat.reduceLT, Nat.reduceBEq, Nat.reduceAdd, ep86, en86, ep85, en85, rep1s, e83, e86, hy]; with_reducible exact hZ) : p := e
theorem F_fc52 {p : Prop} (e : p := by simp -implicitDefEqProofs (disch := first | omega | (simp only [go_sem, lA, lD, lT, hwl, hx1, ofT_len] <;> omega) | decide) only [go_sem, ↓reduceIte, Nat.reduceEqDiff, reduceCtorEq]; all_goals (first | (simp only [hR]; done) | (rw [hR]; exact ⟨rfl, rfl⟩) | (rw [hR]))) : p := e
theorem fc52 {gl : Nat → C} {M0 : Nat} {pu : Nat → List C → Option C} {hp : Nat → List C → Hp → Option (C × Hp)} (hcx : CxOK (cxR gl M0 pu hp)) (l : List Leaf) (f : Nat) (S : List Dig) (T : List (List UInt8)) (u : Nat) (sh : Bool) (n : Nat) (hl : LZ l) (hf : f ≤ 5000) (hS : S.length ≤ 1000000) (hu : u ≤ S.length) (hT : T.length ≤ 800000) (hn : n ≤ 4096)  (hnr : ∀ (g : Nat) (xs : List C), noRefs 0 xs = false → pu g xs = none) (hn86 : ∀ xs : List C, (∃ b o, C.bp b o ∈ xs) → hp 86 xs [] = some (.top, [])) (hq86 : ∀ (suf : Hp) (T : List (List UInt8)) (S : List Dig) (u : Nat) (sh : Bool) (tag : Int) (parts : List (List UInt8)), OkH suf → T.length ≤ 1000000 → (inp tag parts).length < 1099511627776 → hp 86 [.bp 0 0, .val (.int .i64 tag), sl sC .no parts] ([some [sl sC (.own 1) (T), sl dC .no S, .val (nI (u)), .val (.bool (sh))]] ++ suf) = some (.agg (cl bC (ofT tag parts)), [some [sl sC (.own 1) (T ++ [inp tag parts]), sl dC .no S, .val (nI (u)), .val (.bool (sh))]] ++ suf)) (hn85 : ∀ xs : List C, (∃ b o, C.bp b o ∈ xs) → hp 85 xs [] = some (.top, [])) (hq85 : ∀ (suf : Hp) (l : List Leaf) (f : Nat) (S : List Dig) (d : Nat) (T : List (List UInt8)) (u : Nat) (sh : Bool) (a b : Nat), OkH suf → LZ l → f ≤ 5000 → S.length ≤ 1000000 → u ≤ S.length → T.length ≤ 900000 - 2 ^ (d + 1) → d ≤ 12 → a < b ∧ b ≤ 5000 ∧ b - a ≤ 2 ^ d → hp 85 [.bp 0 0, sl eC .no l, .val (nI f), .val (nI a), .val (nI b)] ([some [sl sC (.own 1) (T), sl dC .no S, .val (nI (u)), .val (.bool (sh))]] ++ suf) = some (.agg (cl bC (rowR l f S d a b (T, u, sh)).1), [some [sl sC (.own 1) ((rowR l f S d a b (T, u, sh)).2.1), sl dC .no S, .val (nI ((rowR l f S d a b (T, u, sh)).2.2.1)), .val (.bool ((rowR l f S d a b (T, u, sh)).2.2.2))]] ++ suf)) (h84 : ∀ h : List UInt8, h.length = 16 → pu 84 [.agg (cl bC h)] = some (.val (str h))) (h83 : ∀ n : Int, -9223372036854775808 ≤ n ∧ n ≤ 9223372036854775807 → pu 83 [.val (.int .i64 n)] = some (sl bC (.own 1) (wint n))) : FC Tryd.prog gl 52 [.bp 0 0, sl eC .no l, .val (nI f), .val (nI n)] [some [sl sC (.own 1) (T), sl dC .no S, .val (nI (u)), .val (.bool (sh))]] (.agg (cl bC (rooR l f S n (T, u, sh)).1)) [some [sl sC (.own 1) ((rooR l f S n (T, u, sh)).2.1), sl dC .no S, .val (nI ((rooR l f S n (T, u, sh)).2.2.1)), .val (.bool ((rooR l f S n (T, u, sh)).2.2.2))]] := by
 replace hcx := hcx.reN (M := 28)
 refine FC.ofT (cx := cxR gl 28 pu hp) (rs := [.cell 8 29]) rfl Tryd.func52 rfl rfl rfl (by simp only [List.length_cons, List.length_nil]; decide) (by simp only [go_sem]) (tre_nr _ _ _ _) ?_
 simp only [ini, go_sem]
 have hy := True.intro
 have en86 : ∀ (tag : Nat) (parts : List (List UInt8)), hp 86 [.bp 0 0, .val (nI tag), sl sC .no parts] [] = some (.top, []) := fun tag parts => hn86 _ ⟨0, 0, by simp⟩
 have ep86 : ∀ (tag : Nat) (parts : List (List UInt8)), pu 86 [.bp 0 0, .val (nI tag), sl sC .no parts] = none := fun tag parts => hnr 86 _ rfl
 have en85 : ∀ x y : Nat, hp 85 [.bp 0 0, sl eC .no l, .val (nI f), .val (nI x), .val (nI y)] [] = some (.top, []) := fun x y => hn85 _ ⟨0, 0, by simp⟩
 have ep85 : ∀ x y : Nat, pu 85 [.bp 0 0, sl eC .no l, .val (nI f), .val (nI x), .val (nI y)] = none := fun x y => hnr 85 _ rfl
 have hll := hl.1
 have e83 : pu 83 [.val (nI n)] = some (sl bC (.own 1) (wint ((n : Nat) : Int))) := h83 ((n : Nat) : Int) (by omega)
 have hwl := wintn_len n (by omega)
 have hx1 := True.intro
 have e86 := True.intro
 refine Tr.w hcx [] _ [none] rfl rfl rfl ?_ X_fc52
 refine Tr.w hcx [1000013] _ [] rfl rfl rfl ?_ X_fc52
 refine Tr.seqK fun K1 hK1 => ?_
 refine Tr.w hcx [] _ [] rfl rfl rfl ?_ X_fc52
 refine Tr.cD rfl (fun hc15 => ?_) (fun hc15 => ?_)
 ·
  have e1 := hq85 [some (cl bC (List.replicate 16 0))] l f S 12 T u sh 0 n OkZ hl hf hS hu (by omega) (by omega) (by omega)
  have hB1 := rowR_bd l f S 12 0 n (T, u, sh)
  dsimp only at hB1
  have hR := rooR_n (l := l) (f := f) (S := S) (st := (T, u, sh)) (show ¬ n = 0 by omega)
  obtain ⟨X, hX⟩ : ∃ X, X = rowR l f S 12 0 n (T, u, sh) := ⟨_, rfl⟩
  have hXl : X.1.length = 16 := by rw [hX]; exact rowR_len _ _ _ _ _ _ _
  rw [← hX] at e1 hB1 hR
  have hx1 := hXl
  have e84a := h84 X.1 hXl
  have e86 := hq86 [some (cl bC (List.replicate 16 0))] X.2.1 S X.2.2.1 X.2.2.2 4 [wint ((n : Nat) : Int), X.1] OkZ (by omega) (inp_len2 4 _ _ (by omega) (by omega))
  change hp 86 [C.bp 0 0, .val (nI 4), sl sC .no _] _ = _ at e86
  simp only [List.cons_append, List.nil_append] at e1 e86
  have hy := And.intro @e1 @e84a
  refine Tr.v hcx [16, 1000024] _ [] rfl rfl rfl ?_ X_fc52
  refine hK1 _ ?_
  have hy := True.intro
  refine Tr.w hcx [] _ [] rfl rfl rfl ?_ X_fc52
  exact Tr.ret F_fc52
 have h0 : n = 0 := by omega
 have hR := rooR_0 (l := l) (f := f) (S := S) (st := (T, u, sh)) h0
 have e86 := hq86 [some (cl bC (List.replicate 16 0))] T S u sh 4 [wint ((n : Nat) : Int)] OkZ (by omega) (inp_len1 4 _ (by omega))
 change hp 86 [C.bp 0 0, .val (nI 4), sl sC .no _] _ = _ at e86
 simp only [List.cons_append, List.nil_append] at e86
 refine Tr.skip ?_
 refine hK1 _ ?_
 refine Tr.w hcx [] _ [] rfl rfl rfl ?_ X_fc52
 exact Tr.ret F_fc52
end Go.Sx
namespace Go.Sx
open Go.RowKit Go.Proofs
theorem cmp_bl : ∀ a b : List UInt8, Lib.compareBytes a b = cmpB a b
  | [], [] => by simp [Lib.compareBytes, cmpB, bl_nilr]
  | [], y :: b => by simp [Lib.compareBytes, cmpB, bl_nil]
  | x :: a, [] => by simp [Lib.compareBytes, cmpB, bl_nilr]
  | x :: a, y :: b => by
    have ih := cmp_bl a b
    unfold Lib.compareBytes cmpB
    rw [bl_cons]
    by_cases h : x < y
    · rw [if_pos h, if_pos h]; rfl
    · by_cases h' : y < x
      · have : ¬ (x :: a = y :: b) := fun e => by injection e with e _; subst e; exact h h'
        rw [if_neg h, if_pos h', if_neg h, if_pos h', if_neg this]; rfl
      · have e : x = y := by
          apply UInt8.toNat_inj.1; rw [UInt8.lt_iff_toNat_lt] at h h'; omega
        subst e
        rw [if_neg h, if_neg h, if_neg h, if_neg h, ih, cmpB]
        simp
theorem fc90 {gl : Nat → C} (a b : List UInt8) : FC Tryd.prog gl 90 [.val (str a), .val (str b)] [] (.val (.int .i64 (cmpB a b))) [] := by
  refine FC.ofBelow (vals := [str a, str b]) ⟨_, Tryd.func90, rfl, rfl⟩ fun w => ?_
  refine (Tryd.strings_Compare ⟨a.toArray⟩ ⟨b.toArray⟩ w).mono ?_
  rintro e w' ⟨rfl, rfl⟩
  refine ⟨?_, Below.refl _ _⟩
  simp [cmp_bl]
end Go.Sx
