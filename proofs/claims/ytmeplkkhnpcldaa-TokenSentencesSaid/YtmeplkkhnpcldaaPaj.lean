/-
  More equations: integers that may be negative, 64-bit words, the lesser and the greater one. And what follows.
-/
import Derived.Lib.SlBytesConst
import Derived.SizedLaws
import Derived.JoinedCond
import Derived.Deep.CondSized
import Derived.Below
import Derived.Test.YtmeplkkhnpcldaaPai
set_option linter.unusedSimpArgs false
set_option linter.unusedVariables false
namespace Go.Sx
open Go.RowKit
section
variable (P : Program) (t : TypeId)
theorem i_add (x y : Int) (h : -9223372036854775808 ≤ x + y ∧ x + y < 9223372036854775808) : binPlan P .add t (.val (.int .i64 x)) (.val (.int .i64 y)) = some (vp (.val (.int .i64 (x + y)))) := by
  simp only [bin_int, sbin, ne_eq, not_true_eq_false, if_false, Option.map_some]
  rw [wrap_i64 _ (by omega) (by omega)]
theorem i_addn (x : Int) (y : Nat) (h : -9223372036854775808 ≤ x + y ∧ x + y < 9223372036854775808) : binPlan P .add t (.val (.int .i64 x)) (.val (nI y)) = some (vp (.val (.int .i64 (x + y)))) := i_add P t x y h
theorem i_sub (x y : Int) (h : -9223372036854775808 ≤ x - y ∧ x - y < 9223372036854775808) : binPlan P .sub t (.val (.int .i64 x)) (.val (.int .i64 y)) = some (vp (.val (.int .i64 (x - y)))) := by
  simp only [bin_int, sbin, ne_eq, not_true_eq_false, if_false, Option.map_some]
  rw [wrap_i64 _ (by omega) (by omega)]
theorem n_subI (x y : Nat) (h : x < y ∧ y ≤ 9223372036854775808) : binPlan P .sub t (.val (nI x)) (.val (nI y)) = some (vp (.val (.int .i64 ((x : Int) - y)))) := i_sub P t x y (by omega)
theorem i_rem (x y : Int) (h : y ≠ 0) : binPlan P .rem t (.val (.int .i64 x)) (.val (.int .i64 y)) = some (vp (.val (.int .i64 (x.tmod y)))) := by
  simp only [bin_int, sbin, ne_eq, not_true_eq_false, if_false, Option.map_some, h]
theorem i_remn (x : Int) (y : Nat) (h : 0 < y) : binPlan P .rem t (.val (.int .i64 x)) (.val (nI y)) = some (vp (.val (.int .i64 (x.tmod y)))) := i_rem P t x y (by omega)
theorem i_eql (x y : Int) : binPlan P .eql t (.val (.int .i64 x)) (.val (.int .i64 y)) = some (vp (.val (.bool (decide (x = y))))) := by
  simp only [bin_int, sbin, ne_eq, not_true_eq_false, if_false, Option.map_some]
  congr 4
theorem i_neq (x y : Int) : binPlan P .neq t (.val (.int .i64 x)) (.val (.int .i64 y)) = some (vp (.val (.bool (decide (x ≠ y))))) := by
  simp only [bin_int, sbin, ne_eq, not_true_eq_false, if_false, Option.map_some]
  congr 4; rw [Bool.eq_iff_iff]; simp
theorem i_lss (x y : Int) : binPlan P .lss t (.val (.int .i64 x)) (.val (.int .i64 y)) = some (vp (.val (.bool (decide (x < y))))) := by
  simp only [bin_int, sbin, ne_eq, not_true_eq_false, if_false, Option.map_some]
theorem i_leq (x y : Int) : binPlan P .leq t (.val (.int .i64 x)) (.val (.int .i64 y)) = some (vp (.val (.bool (decide (x ≤ y))))) := by
  simp only [bin_int, sbin, ne_eq, not_true_eq_false, if_false, Option.map_some]
theorem i_gtr (x y : Int) : binPlan P .gtr t (.val (.int .i64 x)) (.val (.int .i64 y)) = some (vp (.val (.bool (decide (y < x))))) := by
  simp only [bin_int, sbin, ne_eq, not_true_eq_false, if_false, Option.map_some]
theorem i_geq (x y : Int) : binPlan P .geq t (.val (.int .i64 x)) (.val (.int .i64 y)) = some (vp (.val (.bool (decide (y ≤ x))))) := by
  simp only [bin_int, sbin, ne_eq, not_true_eq_false, if_false, Option.map_some]
theorem i_lssn (x : Int) (y : Nat) : binPlan P .lss t (.val (.int .i64 x)) (.val (nI y)) = some (vp (.val (.bool (decide (x < y))))) := i_lss P t x y
theorem i_gtrn (x : Int) (y : Nat) : binPlan P .gtr t (.val (.int .i64 x)) (.val (nI y)) = some (vp (.val (.bool (decide ((y : Int) < x))))) := i_gtr P t x y
theorem i_geqn (x : Int) (y : Nat) : binPlan P .geq t (.val (.int .i64 x)) (.val (nI y)) = some (vp (.val (.bool (decide ((y : Int) ≤ x))))) := i_geq P t x y
theorem i_nleq (x : Nat) (y : Int) : binPlan P .leq t (.val (nI x)) (.val (.int .i64 y)) = some (vp (.val (.bool (decide ((x : Int) ≤ y))))) := i_leq P t x y
/- 64-bit words -/
theorem un_negi (x : Int) (h : -9223372036854775808 < x ∧ x ≤ 9223372036854775808) : unPlan .neg (.val (.int .i64 x)) = some (vp (.val (.int .i64 (-x)))) := by
  show some (vp (.val (.int .i64 (IntKind.wrap .i64 (0 - x))))) = _
  rw [wrap_i64 _ (by omega) (by omega), Int.zero_sub]
end
theorem mm_min (x y : Nat) : minMax false (.val (nI x)) (.val (nI y)) = some (vp (.val (nI (min x y)))) := by
  simp only [minMax, nI, if_true, Bool.false_eq_true, if_false]
  by_cases h : y < x
  · rw [if_pos (by omega), Nat.min_eq_right (by omega)]; rfl
  · rw [if_neg (by omega), Nat.min_eq_left (by omega)]; rfl
/- at joins and at the heads of loops -/
theorem CLe_int {x y : Int} (h : x = y) : CLe (.val (.int .i64 x)) (.val (.int .i64 y)) := h ▸ CLe.refl _
theorem CLe_inI {x : Int} {y : Nat} (h : x = y) : CLe (.val (.int .i64 x)) (.val (nI y)) := h ▸ CLe.refl _
theorem CLe_nIi {x : Nat} {y : Int} (h : (x : Int) = y) : CLe (.val (nI x)) (.val (.int .i64 y)) := h ▸ CLe.refl _
theorem CLe_nI {x y : Nat} (h : x = y) : CLe (.val (nI x)) (.val (nI y)) := h ▸ CLe.refl _
theorem CLe_sl {α : Type} {f : α → List C} {r : Rt} {l l' : List α} (h : l = l') : CLe (sl f r l) (sl f r l') := h ▸ CLe.refl _
theorem CLe_sln {α : Type} {f : α → List C} {r : Rt} {l : List α} (h : l = []) : CLe (.val (.slice none 0 0)) (sl f r l) := by subst h; exact CLe.nil _
end Go.Sx
namespace Go.Sx
open Go.RowKit
mutual
theorem noRef_zero (k : Nat) : ∀ c : C, noRef 0 c = true → noRef k c = true
  | .top, _ => rfl
  | .val _, _ => rfl
  | .sl _ _ xs, h => by simp only [noRef] at h ⊢; exact noRefs_zero k xs h
  | .sv b _ _, h => by simp [noRef] at h
  | .bp b _, h => by simp [noRef] at h
  | .kp xs, h => by simp only [noRef] at h ⊢; exact noRefs_zero k xs h
  | .agg xs, h => by simp only [noRef] at h ⊢; exact noRefs_zero k xs h
  | .tup xs, h => by simp only [noRef] at h ⊢; exact noRefs_zero k xs h
  | .fn _ xs, h => by simp only [noRef] at h ⊢; exact noRefs_zero k xs h
theorem noRefs_zero (k : Nat) : ∀ l : List C, noRefs 0 l = true → noRefs k l = true
  | [], _ => rfl
  | c :: l, h => by
    simp only [noRefs, Bool.and_eq_true] at h ⊢
    exact ⟨noRef_zero k c h.1, noRefs_zero k l h.2⟩
end
def noRefE (k : Nat) : List (Nat × C) → Bool
  | [] => true
  | x :: e => noRef k x.2 && noRefE k e
theorem noRefE_nil (k : Nat) : noRefE k [] = true := rfl
theorem noRefE_cons (k t : Nat) (c : C) (e : List (Nat × C)) : noRefE k ((t, c) :: e) = (noRef k c && noRefE k e) := rfl
theorem noRefE_at (k : Nat) : ∀ e : List (Nat × C), noRefE k e = true → ∀ t, noRef k (A e t) = true
  | [], _, t => rfl
  | (u, c) :: e, h, t => by
    rw [noRefE_cons, Bool.and_eq_true] at h
    rw [A_cons]
    split
    · exact h.1
    · exact noRefE_at k e h.2 t
def noRefH (k : Nat) : Hp → Bool
  | [] => true
  | none :: h => noRefH k h
  | some cs :: h => noRefs k cs && noRefH k h
theorem noRefH_nil (k : Nat) : noRefH k [] = true := rfl
theorem noRefH_none (k : Nat) (h : Hp) : noRefH k (none :: h) = noRefH k h := rfl
theorem noRefH_some (k : Nat) (cs : List C) (h : Hp) : noRefH k (some cs :: h) = (noRefs k cs && noRefH k h) := rfl
theorem noRefH_at (k : Nat) : ∀ (h : Hp) (b : Nat) (cells : List C), noRefH k h = true → h.at b = some cells → noRefs k cells = true
  | [], b, cells, _, hb => by simp [Hp.at] at hb
  | none :: h, 0, cells, _, hb => by rw [at_cons0] at hb; cases liveC_some hb
  | some cs :: h, 0, cells, hk, hb => by
    rw [noRefH_some, Bool.and_eq_true] at hk
    rw [at_cons0] at hb
    have hb := liveC_some hb
    cases hb; exact hk.1
  | x :: h, b + 1, cells, hk, hb => by
    rw [at_consS] at hb
    refine noRefH_at k h b cells ?_ hb
    cases x with
    | none => exact hk
    | some cs => rw [noRefH_some, Bool.and_eq_true] at hk; exact hk.2
/-- The boxes from k on are dropped. -/
theorem Tr.cutA {cx : Cx} {n : Nat} {Q : Ex → St → Prop} {e : List (Nat × C)} {h : Hp} {c : Code} (hcx : CxOK cx) (k : Nat) (hk : n ≤ k) (he : noRefE k e = true) (hb : noRefH k (h.take k) = true)
    (H : Tr cx n c ⟨A e, h.take k⟩ Q) : Tr cx n c ⟨A e, h⟩ Q :=
  Tr.cut k hk (noRefE_at k e he) (fun g => noRef_zero k _ (hcx.glo g)) (fun b cells hbk hc => noRefH_at k _ b cells hb (by rw [Hp.at_take, if_pos hbk]; exact hc)) H
theorem noRef_bp (k b o : Nat) : noRef k (.bp b o) = decide (b < k) := rfl
end Go.Sx
namespace Go.Sx
open Go.RowKit
section
variable (P : Program)
def eqR (op : BinOp) (b : Bool) : Option Plan := match op with
  | .eql => some (vp (.val (.bool b)))
  | .neq => some (vp (.val (.bool (!b))))
  | _ => none
theorem eqR_neq (b : Bool) : eqR .neq b = some (vp (.val (.bool (!b)))) := rfl
theorem eqPlan_some {t : TypeId} {x y : List C} {b : Bool} (op : BinOp) (hg : P.eqGuardType P.depth t = false) (h : eqC P 9 t (.agg x) (.agg y) = some b) : binPlan P op t (.agg x) (.agg y) = eqR op b := by
  show eqPlan P op t (.agg x) (.agg y) = _
  unfold eqPlan
  rw [if_pos ⟨rfl, rfl, hg⟩]
  unfold eqR
  cases op <;> simp [h, vp, Plan.pure]
theorem eqC_int {t : TypeId} {k : IntKind} {s y : Nat} {z : List Value} (d : Nat) (h : td P t = some ⟨.int k, s, y, z⟩) (a b : Int) : eqC P (d + 1) t (.val (.int k a)) (.val (.int k b)) = some (decide (a = b)) := by
  unfold eqC; rw [h]; simp only [if_true]; congr 1
end
@[congr] theorem stG_congr {cx : Cx} {apps : List Nat} {dsts : List (Option Nat)} {l : List Oper} {id : Nat} {d : Option Nat} {e : List (Nat × C)} {h : Hp} {fs : List FP} {K : List FP → St → Prop} {ty : TypeId} {pos : String} {aft : Array Edge} {op : Op} {p p' : Option Bool} (hp : p = p') :
    stG cx apps dsts l id d e h fs K ty pos aft op p = stG cx apps dsts l id d e h fs K ty pos aft op p' := by rw [hp]
def wanV (c : C) (w : Bool) : Option Bool := match c with
  | .val (.bool b) => some (b == w)
  | .val (.tuple _) => some false
  | _ => none
def wanQ (d : Option (Option Nat)) (w : Bool) (e : List (Nat × C)) : Option Bool := match d.bind id with
  | none => some false
  | some t => wanV (A e t).noR w
theorem wanted_q (dsts : List (Option Nat)) (j : Nat) (w : Bool) (e : List (Nat × C)) : wantedA dsts (some (j, w)) (A e) = wanQ (dsts[j]?) w e := rfl
theorem wanQ_some (t : Nat) (w : Bool) (e : List (Nat × C)) : wanQ (some (some t)) w e = wanV (A e t).noR w := rfl
theorem wanV_T (b : Bool) : wanV (.val (.bool b)) true = some b := by cases b <;> rfl
theorem wanV_F (b : Bool) : wanV (.val (.bool b)) false = some (!b) := by cases b <;> rfl
theorem wanV_u (w : Bool) : wanV (.val undef) w = some false := rfl
end Go.Sx
namespace Go.Sx
open Go.RowKit
section
variable {cx : Cx} {G : Gh} {w : World} {st : St} {a : Act}
/-- What is asked of the two operations. -/
structure Lit (cx : Cx) (ops ops' : Array Oper) (k : Nat) : Prop where
  dst : ops'.toList.map (·.dst) = ops.toList.map (·.dst)
  app : ops'.toList.filterMap appOf = ops.toList.filterMap appOf
  cnt : ∀ i, cnt ops' i = cnt ops i
  same : ∀ i, i ≠ k + 1 → ops'[i]? = ops[i]?
  two : ∃ p q t n ps ty1 pos1 aft1 ty2 pos2 aft2 e s y z y2 z2, ops[k]? = some ⟨some p, .buildSlice t n ps, ty1, pos1, aft1, none⟩ ∧ ops[k + 1]? = some ⟨some q, .convert t t (.tmp p), ty2, pos2, aft2, none⟩ ∧
    ops'[k + 1]? = some ⟨some q, .move (.tmp p), ty2, pos2, aft2, none⟩ ∧ td cx.P t = some ⟨.slice e, s, y, z⟩ ∧ td cx.P e = some ⟨.int .u8, 1, y2, z2⟩ ∧ cx.gr p = false
end
end Go.Sx
namespace Go.Sx
open Go.RowKit
class Inj {α : Type} (f : α → List C) : Prop where
  inj : ∀ a b, f a = f b → a = b
instance : Inj bC := ⟨fun a b h => by simpa [bC, w8_inj] using h⟩
instance : Inj wC := ⟨fun a b h => by simpa [wC, w32_inj] using h⟩
instance : Inj sC := ⟨fun a b h => by simpa [sC, str_inj] using h⟩
instance : Inj nC := ⟨fun a b h => by simpa [nC, nI_inj] using h⟩
instance : Inj iC := ⟨fun a b h => by simpa [iC] using h⟩
instance : Inj oC := ⟨fun a b h => by simpa [oC] using h⟩
theorem cl_inj {α : Type} {f : α → List C} {s : Nat} [hf : Cel f s] [hi : Inj f] : ∀ {l l' : List α}, cl f l = cl f l' ↔ l = l' := by
  intro l l'
  constructor
  · induction l generalizing l' with
    | nil =>
      intro h
      cases l' with
      | nil => rfl
      | cons a l' =>
        have := congrArg List.length h
        rw [cl_nil, cl_cons, List.length_append, hf.len] at this
        have := hf.pos
        simp at *
        omega
    | cons a l ih =>
      intro h
      cases l' with
      | nil =>
        have := congrArg List.length h
        rw [cl_nil, cl_cons, List.length_append, hf.len] at this
        have := hf.pos
        simp at *
        omega
      | cons b l' =>
        rw [cl_cons, cl_cons] at h
        obtain ⟨h1, h2⟩ := List.append_inj h (by rw [hf.len, hf.len])
        rw [hi.inj _ _ h1, ih h2]
  · rintro rfl; rfl
theorem sl_inj {α : Type} {f : α → List C} {s : Nat} [hf : Cel f s] [hi : Inj f] {r : Rt} {l l' : List α} : sl f r l = sl f r l' ↔ l = l' := by
  constructor
  · intro h
    simp only [sl, C.sl.injEq, true_and] at h
    exact cl_inj.1 h.2
  · rintro rfl; rfl
end Go.Sx
namespace Go.Sx
open Go.RowKit
attribute [go_sem ↓] A_cons GB_true GB_false
attribute [go_sem] callQ_some callQ_none callR_rd refBox_bp refBox_val oneB_nil oneB_bpn refBox_tsl rdPu_eq rdQ_some rdR_true frzs_nil frzs_cons frz_val frz_tsl frz_bp frzB_one noRef_val noRef_agg noRef_tup noRef_kp noRef_sl noRefs_cl noRefs_cons noRefs_nil noRefs_app flat_val flats_cl flats_app Bool.and_self Bool.and_true on_tmp on_const on_func orw_tmp orw_const tmpq_tmp tmpq_const not_true_eq_false not_false_eq_true noR_val noR_bp noR_kp noR_agg noR_tup noR_fn noR_slno noR_slfull noR_slown run_nil run_mvt run_mvc run_asg run_pick run_alloc run_box run_build run_buildS run_load run_store run_bin run_un run_conv run_mkf run_slice run_fa run_ixa run_ix run_extr run_len run_app run_min run_call run_mkS run_mkN run_guard bump_move bump_pick bump_load bump_binOp bump_unOp bump_fieldAddr bump_indexAddr bump_index bump_call stV_vp stV_val0 stV_valk stV_rd stV_wr stV_new stV_call stR_some stW_some0 stW_somek stC_some stN_some stG_some AN_true dOK_some dOK_none lit_w8o lit_nIo str_mk mvP isA_nil isA_cons Bool.or_false Bool.false_or Bool.true_or Bool.or_true beq_self_eq_true onM onP List.map_nil List.map_cons Option.map_none Option.map_some Option.bind_some Option.bind_none thenQ_n bin_bool binB_neq b_add b_sub b_eql b_lss b_leq b_gtr b_geq n_add n_sub n_quo n_rem n_eql n_neq n_lss n_leq n_gtr n_geq un_not s_eql s_neq s_add ne_eq wanted_q wanQ_some wanV_T wanV_F wanV_u eqR_neq eq_self decide_true decide_false Bool.not_true Bool.not_false i_add i_addn i_sub n_subI i_rem i_remn i_eql i_neq i_lss i_leq i_gtr i_geq i_lssn i_gtrn i_geqn i_nleq un_negi mm_min conv_td cv_vs cvV_u8 load_bp ldB_int ldB_str ldB_sl load_kp ldK_int ldK_str ldK_sl ldK_arr ldK_struct store_val store_agg store_sl stS_one stB_many cells_w8 cells_nI cells_int cells_str cl_noR box_cs boxQ_some alloc_z alQ_true allOne_nil allOne_cons zc_nil zc_cons one_nI one_str one_slice build_struct bldS_true plc_nil plc_cons plQ_some layS_nil layS_cons layQ_some layW_some rep_nI idx_nI bound_nI bound_none ixa_td ixS_some ixa_ab ixa_akT ixK_some ixa_sv ixa_slT ixL_some inx_td inx_str inS_some len_td len_str len_sv len_sl Nat.mul_one Nat.zero_add Nat.add_zero slice_td sl2_none sl2_nI slS_some slP_str app_td app_ss apQ_own apQ_full pick_tf pick_ff extractP callP shares List.append_nil share_w8 share_nI share_strs share_val share_bp share_slno share_slfull rds_cl List.map_append gt_cons0 gt_consS build_arr buildA_n bs_slice bsA_s lay1s_s lay1s_nil rep_str Nat.sub_zero Nat.zero_mul List.drop_zero List.drop_succ_cons List.take_succ_cons List.take_zero at_cons0 at_consS rdc_cons0 rdc_drop rdc_cl wrc_b wrs_one List.set_cons_zero List.set_cons_succ List.getElem?_cons_zero List.getElem?_cons_succ List.length_nil List.length_cons List.nil_append List.cons_append Nat.add_sub_cancel_left List.length_set List.length_replicate gt_def
end Go.Sx
namespace Go.Sx
open Go.RowKit Go.ChangeShapes
theorem trods_cons {H : Type} {enc : TypeId × Value → H} {P : Program} {W : World} {b : Nat} {sp : Nat → Bool} {hd : Bool} {t : TypeId} {ts : List TypeId} {vs : List Value} {ds : List (DataW H)} {ps : List MemPlace}
    (h : DataW.TrodAll enc P W b sp hd (t :: ts) vs ds ps) : ∃ v vs' d ds' p q, vs = v :: vs' ∧ ds = d :: ds' ∧ DataW.Trod enc P W b sp hd t v d p ∧ DataW.TrodAll enc P W b sp hd ts vs' ds' q := by
  cases vs <;> cases ds <;> simp only [DataW.TrodAll] at h
  obtain ⟨p, q, h1, h2, _⟩ := h
  exact ⟨_, _, _, _, p, q, rfl, rfl, h1, h2⟩
theorem trods_nil {H : Type} {enc : TypeId × Value → H} {P : Program} {W : World} {b : Nat} {sp : Nat → Bool} {hd : Bool} {vs : List Value} {ds : List (DataW H)} {ps : List MemPlace}
    (h : DataW.TrodAll enc P W b sp hd [] vs ds ps) : vs = [] := by
  cases vs <;> cases ds <;> simp only [DataW.TrodAll] at h <;> rfl
section
variable {P : Program} {t e : TypeId}
end
end Go.Sx
namespace Go.Sx
attribute [go_sem] one_nI one_str one_slice refy_sv refy_bp refy_agg refy_val refy_kp refy_tsl cl_len thenQ_n thenQ_r blockQ_n blockQ_r EndsR_r resL_one resC_tmp Le_nil Le_cons CLe_refl CLe_top CLe_full CLe_nil CLe_own ev_tmp ev_const condG_bool noRef_bp true_and and_true
end Go.Sx
namespace Go.Sx
open Go.RowKit
abbrev Dig := {l : List UInt8 // l.length = 16}
instance : Inhabited Dig := ⟨⟨List.replicate 16 0, by simp⟩⟩
def dC (d : Dig) : List C := cl bC d.1
instance : Cel dC 16 := ⟨fun a => by unfold dC; rw [cl_len (f := bC), a.2], fun a => by unfold dC; exact cl_noR a.1, by decide, fun a r => by
  unfold dC
  obtain ⟨l, hl⟩ := a
  cases l with
  | nil => simp at hl
  | cons b l => rfl⟩
instance : Fla dC := ⟨fun a => by unfold dC; exact flats_cl bC a.1⟩
instance : Inj dC := ⟨fun a b h => Subtype.ext (cl_inj.1 h)⟩
theorem rda_dropE {α : Type} [Inhabited α] {f : α → List C} {s : Nat} [hf : Cel f s] (l : List α) (k : Nat) (h : k < l.length) : rda ((cl f l).drop (k * s)) 0 s = some (.agg (f (gt l k))) := by
  rw [← gt_def, ← rda_clE (f := f) l k h]
  unfold rda
  simp only [List.length_drop, List.drop_drop, Nat.add_zero, Nat.zero_add]
  have h1 := cl_len (f := f) l
  have h2 : k * s + s ≤ l.length * s := by rw [← Nat.succ_mul]; exact Nat.mul_le_mul_right _ h
  rw [if_pos (by omega), if_pos (by omega)]
def res2 (a b : Option C) : Option C := match a, b with
  | some a, some b => some (.tup [a.noR, b.noR])
  | _, _ => none
def res3 (a b c : Option C) : Option C := match a, b, c with
  | some a, some b, some c => some (.tup [a.noR, b.noR, c.noR])
  | _, _, _ => none
theorem resL_3 (cx : Cx) (st : St) (r1 r2 r3 : ResultVar) : resL cx st [r1, r2, r3] = res3 (resC cx st r1) (resC cx st r2) (resC cx st r3) := by
  unfold resL res3
  simp only [List.mapM_cons, List.mapM_nil, Option.bind_eq_bind, Option.pure_def]
  cases resC cx st r1 <;> cases resC cx st r2 <;> cases resC cx st r3 <;> rfl
theorem res3_some (a b c : C) : res3 (some a) (some b) (some c) = some (.tup [a.noR, b.noR, c.noR]) := rfl
attribute [go_sem] resL_3 res3_some
theorem not_dec (p : Prop) [Decidable p] : (!decide p) = decide (¬ p) := by simp
attribute [go_sem] not_dec rda_dropE
end Go.Sx
namespace Go.Sx
open Go.RowKit
theorem tkd {α : Type} (l : List α) (p : Nat) : List.take (l.length - p) (List.drop p l) = List.drop p l := by
  rw [← List.length_drop, List.take_length]
attribute [go_sem] tkd List.map_cons List.map_nil List.set_cons_zero
end Go.Sx
namespace Go.Sx
open Go.RowKit
def EndsH (cx : Cx) (rs : List ResultVar) (c : C) (h' : Hp) : Ex → St → Prop
  | .exit _, _ => False
  | _, st => resL cx st rs = some c ∧ st.h = h'
theorem EndsH_r (cx : Cx) (rs : List ResultVar) (c : C) (h' : Hp) (st : St) : EndsH cx rs c h' .ret st = (resL cx st rs = some c ∧ st.h = h') := rfl
theorem FC.ofH {cx : Cx} {f : Nat} {fn : Func} {code : Code} {args : List C} {h h' : Hp} {c : C} {rs : List ResultVar} (hN : cx.N = fn.ntmps) (hf : cx.P.funcs[f]? = some fn) (hn : (fn.name == "runtime.NumGoroutine") = false) (hb : fn.body = some code)
    (hrs : fn.results = rs.toArray) (hlen : args.length ≤ fn.ntmps) (hT : Tr cx h.length code ⟨A (ini 0 args), h⟩ (EndsH cx rs c h')) : FC cx.P cx.gl f args h c h' := by
  refine FC.of hN hf hn hb hlen ?_
  refine Tr.weaken (fun t => CLe.init args t) (hT.mono fun x st q => ?_)
  have key : resL cx st rs = some c ∧ st.h = h' → results cx fn st = some c ∧ ((st.h.take h.length = h' ∧ noRef h.length c = true ∧ ∀ b cells, b < h.length → st.h.at b = some cells → noRefs h.length cells = true) ∨ st.h = h') := fun q => by
    refine ⟨?_, .inr q.2⟩
    rw [← q.1]
    unfold results
    rw [hrs]
    rcases rs with _ | ⟨r, _ | ⟨r2, rs⟩⟩ <;> rfl
  cases x with
  | exit k => exact q
  | normal => exact key q
  | ret => exact key q
theorem callR_none (cx : Cx) (g : Nat) (as : List C) (o : Option (C × Hp)) : callR cx g as none o = some (.call g as) := rfl
theorem refBox_nil : refBox [] = none := rfl
attribute [go_sem] refBox_nil EndsH_r callR_none
end Go.Sx
namespace Go.Sx
open Go.RowKit
/-- A slice in one cell. -/
def lC {α : Type} (f : α → List C) (l : List α) : List C := [sl f .no l]
instance {α : Type} (f : α → List C) : Sca (lC f) (sl f .no) := ⟨fun _ => rfl, fun _ => rfl, fun _ => rfl, fun _ _ => rfl⟩
attribute [go_sem] List.nil_append List.cons_append
end Go.Sx
namespace Go.Sx
open Go.RowKit
open Classical in
noncomputable def tabH {α : Type} (enc : α → List C × Hp) (out : α → C × Hp) (xs : List C) (h : Hp) : Option (C × Hp) :=
  if q : ∃ a, enc a = (xs, h) then some (out q.choose) else none
theorem tabH_enc {α : Type} {enc : α → List C × Hp} {out : α → C × Hp} (hi : ∀ a b, enc a = enc b → out a = out b) (a : α) : tabH enc out (enc a).1 (enc a).2 = some (out a) := by
  have h : ∃ b, enc b = ((enc a).1, (enc a).2) := ⟨a, rfl⟩
  unfold tabH
  rw [dif_pos h]
  exact congrArg some (hi _ _ h.choose_spec)
theorem tabH_some {α : Type} {enc : α → List C × Hp} {out : α → C × Hp} {xs : List C} {h : Hp} {r : C × Hp} (e : tabH enc out xs h = some r) : ∃ a, enc a = (xs, h) ∧ out a = r := by
  unfold tabH at e
  split at e
  · rename_i h2; exact ⟨_, h2.choose_spec, Option.some.inj e⟩
  · cases e
end Go.Sx
namespace Go.Sx
open Go.RowKit Go.ChangeShapes Go.WideShapes
/-- How a value stands to the data that it reads as. -/
abbrev Rel (α : Type) := α → (H : Type) → DataW H → Prop
def Rdx (P : Program) (t : TypeId) {α : Type} (f : α → List C) (R : Rel α) : Prop :=
  ∀ {H : Type} {enc : TypeId × Value → H} {W : World} {base : Nat} {sp : Nat → Bool} {held : Bool} {fuel : Nat} {cs : List Value} {x : DataW H × List MemPlace},
    DataW.trod enc P W base sp held fuel t cs = some x → ∃ a, R a H x.1 ∧ RepL (GW W) (f a) cs ∧ ∀ u ∈ cs, u.oneCell' = true
def RI : Rel Int := fun n _ d => (-9223372036854775808 ≤ n ∧ n ≤ 9223372036854775807) ∧ d = .lit (.int .i64 n)
def RS : Rel (List UInt8) := fun s _ d => s.length ≤ 9223372036854775807 ∧ d = .lit (.string s)
def RL {α : Type} (R : Rel α) : Rel (List α) := fun l H d => (l = [] ∧ d = .nil) ∨ ∃ elems spare, d = .slice elems spare ∧ l.length ≤ 9223372036854775807 ∧ elems.length = l.length ∧ ∀ (i : Nat) a x, l[i]? = some a → elems[i]? = some x → R a H x
section
variable {P : Program} {t e : TypeId}
theorem rdx_int (ht : P.underlying t = some (.int .i64)) : Rdx P t iC RI := fun h => by
  obtain ⟨n, rfl, e, hw⟩ := DataW.trod_int ht h
  refine ⟨n, ⟨?_, by rw [e]⟩, rds_val rfl, by simp [Value.oneCell']⟩
  simpa [Lit.wf, IntKind.min, IntKind.max, IntKind.signed, IntKind.bits] using hw
theorem rdx_str (ht : P.underlying t = some .string) : Rdx P t sC RS := fun h => by
  obtain ⟨s, rfl, e, hs⟩ := DataW.trod_string ht h
  have hl : s.data.toList.length = s.size := by cases s; rfl
  exact ⟨s.data.toList, ⟨Nat.le_trans (Nat.le_of_eq hl) hs, by rw [e]⟩, rds_val (str_of s), by simp [Value.oneCell']⟩
theorem rdx_slice {α : Type} {f : α → List C} {R : Rel α} {s : Nat} [hf : Cel f s] (ht : P.underlying t = some (.slice e)) (hc : P.cellsOf e = s) (he : Rdx P e f R) :
    Rdx P t (fun l : List α => [sl f .no l]) (RL R) := fun {H enc W base sp held fuel cs x} h => by
  rcases DataW.trod_slice ht h with ⟨rfl, ex⟩ | ⟨a, len, cap, elems, rest, n, _, rfl, ex, hb, hl, hm, hlen, hel, _, _⟩
  · refine ⟨[], .inl ⟨rfl, by rw [ex]⟩, ?_, by simp [Value.oneCell']⟩
    simp only [RepL]
    refine ⟨_, [], rfl, ?_, rfl⟩
    simp only [sl, Rep]
    exact ⟨none, 0, rfl, Nat.le_refl _, Nat.zero_le _, by simp, .inl rfl⟩
  · have each : ∀ i < len, ∃ b, (∀ y, elems[i]? = some y → R b H y.1) ∧ ∃ cs, W.cells? base (a.add (i * s)) s = some cs ∧ RepL (GW W) (f b) cs ∧ ∀ u ∈ cs, u.oneCell' = true := fun i hi => by
      have h1 := hel i hi
      rw [List.getElem?_eq_getElem (by omega), hc, Option.bind_eq_some_iff] at h1
      obtain ⟨cs, h2, h3⟩ := h1
      obtain ⟨b, h4, h5, h6⟩ := he h3
      exact ⟨b, fun y hy => by rw [List.getElem?_eq_getElem (by omega)] at hy; rw [← Option.some.inj hy]; exact h4, cs, h2, h5, h6⟩
    obtain ⟨l, hll, hlr⟩ := forall_lists len each
    refine ⟨l, .inr ⟨_, _, by rw [ex], by rw [hll]; exact Nat.le_trans hl hm, by rw [List.length_map, hlen, hll], fun i b y hb hy => ?_⟩, ?_, by simp [Value.oneCell']⟩
    · rw [List.getElem?_map] at hy
      cases hq : elems[i]? with
      | none => rw [hq] at hy; cases hy
      | some z =>
        rw [hq] at hy
        obtain rfl := Option.some.inj hy
        exact (hlr i b hb).1 z hq
    simp only [RepL]
    refine ⟨_, [], rfl, ?_, rfl⟩
    simp only [sl, Rep]
    refine ⟨some a, cap, by rw [hll], by omega, hm, by simp, ?_⟩
    by_cases h0 : len = 0
    · left; have : l = [] := by rw [← List.length_eq_zero_iff]; omega
      subst this; rfl
    · right
      have hspot : a = ⟨a.block, a.off, none⟩ := by
        obtain ⟨b, hb⟩ : ∃ b, l[0]? = some b := ⟨_, List.getElem?_eq_getElem (by omega)⟩
        obtain ⟨_, cs, h2, _⟩ := hlr 0 b hb
        have h3 := (World.cells?_some h2).2.2 0 hf.pos
        simp only [Nat.zero_mul] at h3
        have h4 : W.cell? a ≠ none := by
          have : (a.add 0).add 0 = a := by simp [Addr.add]
          rw [this] at h3
          rw [h3]
          have := (World.cells?_some h2).2.1
          intro hq
          have := hf.pos
          have hq2 : cs.length ≤ 0 := by simpa using hq
          omega
        obtain ⟨blk, off, spot⟩ := a
        cases spot with
        | none => rfl
        | some q => simp [World.cell?] at h4; split at h4 <;> simp_all
      refine ⟨a.block, a.off, by rw [← hspot], ?_⟩
      refine RepK.of_get fun k c hk => ?_
      have hkl : k < (cl f l).length := (List.getElem?_eq_some_iff.1 hk).1
      rw [cl_len (f := f)] at hkl
      have hs := hf.pos
      have hdm : k = (k / s) * s + k % s := by rw [Nat.mul_comm]; exact (Nat.div_add_mod k s).symm
      have hml : k % s < s := Nat.mod_lt _ hs
      rw [hdm, cl_getq (f := f) l _ _ hml] at hk
      rw [Option.bind_eq_some_iff] at hk
      obtain ⟨b, hb, hbc⟩ := hk
      obtain ⟨_, cs, h2, h3, h4⟩ := hlr _ b hb
      obtain ⟨u, hu1, hu2⟩ := h3.get _ c hbc
      refine ⟨u, ?_, h4 u (List.mem_of_getElem? hu1), hu2⟩
      have h5 := (World.cells?_some h2).2.2 (k % s) hml
      rw [hu1] at h5
      rw [hspot] at h5
      show W.cell? ⟨a.block, a.off + k, none⟩ = some u
      rw [← h5]
      rw [addr_add2, Nat.add_assoc, ← hdm]
end
/-- An argument of a type reads as a shadow value, and as data. -/
def AX (P : Program) (t : TypeId) {α : Type} (g : α → C) (R : Rel α) : Prop :=
  ∀ {H : Type} {enc : TypeId × Value → H} {W : World} {base b0 : Nat} {sp : Nat → Bool} {held : Bool} {v : Value} {d : DataW H} {ps : List MemPlace},
    Value.okWide P W .any b0 t v → DataW.Trod enc P W base sp held t v d ps → ∃ a, R a H d ∧ Rep (GW W) (g a) v
section
variable {P : Program} {t e : TypeId}
theorem ax_one {α : Type} {f : α → List C} {g : α → C} {R : Rel α} (hg : ∀ a, f a = [g a]) (hr : Rdx P t f R) (hu : ∀ u, P.underlying t = some u → (match u with | .struct _ | .array _ _ => False | _ => True)) : AX P t g R := fun {H enc W base b0 sp held v d ps} hval hd => by
  obtain ⟨fuel, hd⟩ := hd
  obtain ⟨a, h1, h2, _⟩ := hr hd
  rw [hg] at h2
  simp only [RepL] at h2
  obtain ⟨u, vs, h3, h4, rfl⟩ := h2
  refine ⟨a, h1, ?_⟩
  cases v with
  | agg cs =>
    exfalso
    unfold Value.okWide at hval
    cases hq : P.underlying t with
    | none => rw [hq] at hval; simp [Cell.okWide, Cell.ok, hq] at hval
    | some u =>
      have := hu u hq
      rw [hq] at hval
      cases u <;> simp_all [Cell.okWide, Cell.ok]
  | _ =>
    simp only [Value.cells, List.cons.injEq, and_true] at h3
    rw [h3]; exact h4
theorem ax_int {s y : Nat} {z : List Value} (h : td P t = some ⟨.int .i64, s, y, z⟩) : AX P t (fun n : Int => .val (.int .i64 n)) RI :=
  ax_one (f := iC) (fun _ => rfl) (rdx_int (td_spec h).1) fun u hu => by rw [(td_spec h).1] at hu; cases hu; trivial
theorem ax_str {s y : Nat} {z : List Value} (h : td P t = some ⟨.string, s, y, z⟩) : AX P t (fun n : List UInt8 => .val (str n)) RS :=
  ax_one (f := sC) (fun _ => rfl) (rdx_str (td_spec h).1) fun u hu => by rw [(td_spec h).1] at hu; cases hu; trivial
theorem ax_slice {α : Type} {f : α → List C} {R : Rel α} {s0 s y : Nat} [hf : Cel f s0] {z : List Value} (h : td P t = some ⟨.slice e, s, y, z⟩) (hc : P.cellsOf e = s0) (he : Rdx P e f R) : AX P t (fun l : List α => sl f .no l) (RL R) :=
  ax_one (f := fun l => [sl f .no l]) (fun _ => rfl) (rdx_slice (td_spec h).1 hc he) fun u hu => by rw [(td_spec h).1] at hu; cases hu; trivial
end
/-! What the sizes say. -/
section
variable {H : Type} {P : Program} {ts : List TypeId} {ds : List (DataW H)} (h : (DataW.weightsEach P ts ds).all (· ≤ reachBytes) = true)
include h
end
/-- How much data holds; as the statements' own count does. -/
structure BulkOK {H : Type} (B : DataW H → Nat) (BA : List (DataW H) → Nat) : Prop where
  one : ∀ d, 1 ≤ B d
  str : ∀ s, B (.lit (.string s)) = s.length + 1
  slice : ∀ e s, B (.slice e s) = BA e + BA s + 1
  agg : ∀ e, B (.agg e) = BA e + 1
  nil : BA [] = 0
  cons : ∀ d r, BA (d :: r) = B d + BA r
section
variable {H : Type} {B : DataW H → Nat} {BA : List (DataW H) → Nat} (hB : BulkOK B BA)
include hB
end
section
variable {K : Checked} {os : Os} {H : Type} {enc : TypeId × Value → H} {fi : Nat} {fn : Func} {fresh handsOn again : Bool} {gl : Nat → C} {t : TypeId}
theorem trodAll_len {P : Program} {W : World} : ∀ (ts : List TypeId) (vs : List Value) (ds : List (DataW H)) (ps : List MemPlace), DataW.TrodAll enc P W 0 (fun _ => true) true ts vs ds ps → ds.length = ts.length
  | [], vs, ds, ps, h => by cases vs <;> cases ds <;> simp_all [DataW.TrodAll]
  | t :: ts, vs, ds, ps, h => by
    cases vs <;> cases ds <;> simp only [DataW.TrodAll] at h
    obtain ⟨p, q, _, h4, _⟩ := h
    simp [trodAll_len _ _ _ _ h4]
/-- A law whose contract says that it returns true, over no listed variables; the sizes are handed on. -/
theorem law_plain (started : os.Started) {a : Assume} {s : ChangeSpec}
    (own : ownKnob K.prog.godebug = none) (noInit : K.prog.inits.idxOf? fi = none) (hfn : K.prog.funcs[fi]? = some fn)
    (hl : laidOutB K.prog = true) (hm : mapsRowed K.prog = true) (hsl : slicesB K.prog = true) (hps : (fn.params.toList.all fun t => decide (t < K.prog.types.size)) = true)
    (hv : s.vars = []) (hs : ∀ ds : List (DataW H), ds.length = fn.params.size → s.fn H ds = { results := [.lit (.bool true)], args := ds }) (hr : fn.resultTypes = #[t]) (ht : K.prog.underlying t = some .bool)
    (witness : ∃ (w : World) (tape : Tape) (i : Input), w.os = os ∧ (w.forCall tape i).Shaped K.prog ∧ i.vars = [] ∧ Input.okWide K.prog (w.forCall tape i) .any w.heap.size fi i ∧
      s.pre6 enc K.prog fn [] false (w.forCall tape i).memory i.args ∧ a.holds K.prog (lone (Frame.enter K.prog fi i.args .normal) [] (w.forCall tape i)))
    (hgl : ∀ W g, Rep (GW W) (gl g) (.pointer (some ⟨g, 0, none⟩)))
    (hc : ∀ (W : World) (b0 : Nat) (args : Array Value) (ds : List (DataW H)) (p : List MemPlace), (∀ (j : Nat) t v, fn.params.toList[j]? = some t → args.toList[j]? = some v → Value.okWide K.prog W .any b0 t v) →
      DataW.TrodAll enc K.prog W 0 (fun _ => true) true fn.params.toList args.toList ds p → (DataW.weightsEach K.prog fn.params.toList ds).all (· ≤ reachBytes) = true → ∃ as, RepL (GW W) as args.toList ∧ FC K.prog gl fi as [] (.val (.bool true)) []) :
    ReturnsInHanded a K os fi .any (s.pre6 enc K.prog fn [] false) (s.post enc K.prog fn false fresh handsOn again) := by
  refine returnsInHanded_of_change_sized (C := K) own started noInit hfn witness ?_
  intro W base args ds gs before hval hW _ hsz _
  have hW' := hW
  obtain ⟨p, q, h1, h2, rfl, hz, hn⟩ := hW'
  rw [hv] at h2
  obtain ⟨rfl, rfl⟩ := trodVars_none h2
  have hvt : s.plain.varTypes K.prog = [] := by
    show (s.vars.filterMap _) = []
    rw [hv]; rfl
  rw [hvt, List.append_nil, List.append_nil] at hsz
  obtain ⟨as, has, hfc⟩ := hc W base args ds p (fun j t v hj hv => hval j t v (by simpa using hj) (by simpa using hv)) h1 hsz
  refine (hfc.2 (GW W) W args (GW_ok W) (fun g p h => by cases h) (hgl W) has).mono ?_
  rintro e W' ⟨v, G', rfl, hrep, _, _, F⟩
  rw [rep_val] at hrep
  subst hrep
  have hold : ∀ g < W.heap.size, W'.heap[g]? = W.heap[g]? := fun g hg => (F.old g hg rfl (fun b h => by cases h)).1
  refine ⟨_, rfl, law_post hl hm hsl (fun t ht => ?_) hW hv (hs ds (by rw [trodAll_len _ _ _ _ h1]; simp)) hr ht F.os F.output hold⟩
  have := List.all_eq_true.1 hps t ht
  simpa using this
end
end Go.Sx
namespace Go.Sx
open Go.RowKit Go.ChangeShapes Go.WideShapes
end Go.Sx
namespace Go.Sx
open Go.RowKit
theorem repL_vals {G : Gh} : ∀ {vals vs : List Value}, RepL G (vals.map .val) vs → vs = vals
  | [], vs, h => by simpa [RepL] using h
  | v :: vals, vs, h => by
    rw [List.map_cons] at h
    simp only [RepL] at h
    obtain ⟨u, us, rfl, h2, h3⟩ := h
    rw [rep_val] at h2
    rw [h2, repL_vals h3]
theorem FC.ofBelow {P : Program} {gl : Nat → C} {f : Nat} {vals : List Value} {v : Value} (he : Entered P f) (h : ∀ w, Calls P f vals.toArray w fun e w' => e = .returned v ∧ Below w.heap.size w w') : FC P gl f (vals.map .val) [] (.val v) [] := by
  refine ⟨he, fun G w vs W hT hg hr => ?_⟩
  obtain rfl : vs = vals.toArray := by rw [← repL_vals hr]
  refine (h w).mono ?_
  rintro e w' ⟨rfl, hb⟩
  have hlt : ∀ blk off u, G.K blk off = some u → blk < w.heap.size := fun blk off u hk => by
    have := W.known blk off u hk
    unfold World.cell? at this
    cases hq : w.heap[blk]? with
    | none => rw [hq] at this; simp at this
    | some o => exact (Array.getElem?_eq_some_iff.1 hq).1
  have hn : ∀ b cells, Hp.at [] b ≠ some cells := fun b cells => by simp [Hp.at]
  refine ⟨v, G, rfl, rep_val.2 rfl, (fun s n xs e => by cases e), ⟨fun blk off u hk => ?_, fun b cells hc => (hn b cells hc).elim, (fun b blk x => ⟨(W.dom b blk x).1, Nat.lt_of_lt_of_le (W.dom b blk x).2 hb.size⟩), W.inj, W.sep, (fun g p hp => Nat.lt_of_lt_of_le (W.tlt g p hp) hb.size), (fun b cells off s n xs blk v hc => (hn b cells hc).elim), fun b z hz => ?_⟩,
    ⟨hb.os, hb.tape, hb.output, hb.size, .refl G, fun g hg' ht hm => ⟨hb.block g hg', ht, hm, fun _ => rfl⟩⟩⟩
  · rw [← W.known blk off u hk]
    unfold World.cell?
    rw [hb.block blk (hlt blk off u hk)]
  · obtain ⟨blk, cs, e, fr, q1, q2, q3⟩ := W.siz b z hz
    obtain ⟨⟨c, hc⟩, _⟩ := W.dom b blk q1
    simp at hc
end Go.Sx
namespace Go.Sx
open Go.RowKit
def Cx.grow (cx : Cx) (l : List Nat) : Cx := { cx with gr := fun t => l.contains t }
section
variable {cx : Cx} {n : Nat} {st : St} {Q : Ex → St → Prop} {G : Gh} {w : World} {h : Hp}
theorem CxOK.grow (hcx : CxOK cx) (l : List Nat) : CxOK (cx.grow l) := ⟨hcx.glo, hcx.pu, hcx.hp⟩
theorem Sim.grow {a : Act} (H : Sim cx G w st a) (l : List Nat) : Sim (cx.grow l) G w st a := ⟨H.defers, H.size, H.pre.ok, H.pre.env, H.pre.glob⟩
theorem Sim.ungrow {a : Act} {l : List Nat} (H : Sim (cx.grow l) G w st a) : Sim cx G w st a := ⟨H.defers, H.size, H.pre.ok, H.pre.env, H.pre.glob⟩
theorem Tr.gw (l : List Nat) {c : Code} (H : Tr (cx.grow l) n c st Q) : Tr cx n c st Q := fun G w a S R hR =>
  H G w a (S.grow l) R fun x s G' w' a' q S' F => hR x s G' w' a' q S'.ungrow F
theorem Tr.rgG (hcx : CxOK cx) (gs : List Nat) {e : List (Nat × C)} {id : Nat} {l : List Oper} (apps : List Nat) (dsts : List (Option Nat)) (z : Hp) (h1 : l.filterMap appOf = apps) (h2 : l.map (·.dst) = dsts) (h3 : nones l = z)
    (H : run (cx.grow gs) apps dsts l h.length e (h ++ z) [] (fun _ s => Q .normal s)) : Tr cx n (.region id l.toArray false) ⟨A e, h⟩ Q :=
  Tr.gw gs (Tr.rg (hcx.grow gs) apps dsts z h1 h2 h3 H)
theorem Tr.rgDG (hcx : CxOK cx) (hm : cx.P.follows .mixedOrders = true) (gs : List Nat) {e : List (Nat × C)} {id : Nat} {l : List Oper} (apps : List Nat) (dsts : List (Option Nat)) (z : Hp) (h1 : l.filterMap appOf = apps) (h2 : l.map (·.dst) = dsts) (h3 : nones l = z)
    (hs : regStatic l.toArray = true)
    (H : run (cx.grow gs) apps dsts l h.length e (h ++ z) [] (fun fs s => confsOK l.toArray fs.reverse = true ∧ Q .normal s)) : Tr cx n (.region id l.toArray true) ⟨A e, h⟩ Q :=
  Tr.gw gs (Tr.rgD (hcx.grow gs) hm apps dsts z h1 h2 h3 hs H)
/-- A box that stands nowhere: for a slice that is nil yet. -/
theorem Tr.virt {c : Code} (H : Tr cx n c ⟨st.env, st.h ++ [some []]⟩ Q) : Tr cx n c st Q := fun G w a S R hR =>
  H G w a ⟨S.defers, S.size, S.pre.ok.virt, S.pre.env, S.pre.glob⟩ R hR
theorem CLe.nilG (b s : Nat) : CLe (.val (.slice none 0 0)) (.gv b 0 s) :=
  ⟨fun G v h => by rw [rep_val] at h; simp only [Rep]; exact ⟨none, 0, h, Nat.le_refl _, Nat.zero_le _, .inl ⟨trivial, rfl⟩⟩, fun s n xs e => by cases e⟩
/-! Renaming. -/
def loc : List Nat → Nat → Nat → Option Nat
  | [], _, _ => none
  | x :: r, k, b => if b = x then some k else loc r (k + 1) b
theorem loc_some : ∀ {ρ : List Nat} {k b j : Nat}, loc ρ k b = some j → k ≤ j ∧ ρ[j - k]? = some b
  | [], k, b, j, h => by cases h
  | x :: r, k, b, j, h => by
    simp only [loc] at h
    split at h
    · rename_i e; cases h; subst e; simp
    · obtain ⟨h1, h2⟩ := loc_some h
      refine ⟨by omega, ?_⟩
      have : j - k = (j - (k + 1)) + 1 := by omega
      rw [this, List.getElem?_cons_succ]; exact h2
mutual
def mvC (ρ : List Nat) : C → C
  | .sv b o n => match loc ρ 0 b with | some j => .sv j o n | none => .top
  | .gv b n s => match loc ρ 0 b with | some j => .gv j n s | none => .top
  | .bp b o => match loc ρ 0 b with | some j => .bp j o | none => .top
  | .sl r n xs => .sl r n (mvCs ρ xs)
  | .kp xs => .kp (mvCs ρ xs)
  | .agg xs => .agg (mvCs ρ xs)
  | .tup xs => .tup (mvCs ρ xs)
  | .fn f xs => .fn f (mvCs ρ xs)
  | .top => .top
  | .val v => .val v
def mvCs (ρ : List Nat) : List C → List C
  | [] => []
  | x :: xs => mvC ρ x :: mvCs ρ xs
end
theorem mvCs_map (ρ : List Nat) : ∀ xs : List C, mvCs ρ xs = xs.map (mvC ρ)
  | [] => rfl
  | x :: xs => by simp [mvCs, mvCs_map ρ xs]
def mvH (ρ : List Nat) (h : Hp) : Hp := ρ.map fun b => ((h[b]?).getD none).map (mvCs ρ)
def mvG (ρ : List Nat) (G : Gh) : Gh where
  K := G.K
  μ := fun j => (ρ[j]?).bind G.μ
  T := fun g => match G.T g with
    | some p => if p.1 = 1 then (loc ρ 0 p.2.1).map (fun j => (1, j, p.2.2)) else some p
    | none => none
  σ := fun j => (ρ[j]?).bind G.σ
mutual
theorem mvC_rep {ρ : List Nat} : ∀ (c : C) (v : Value), Rep G c v → Rep (mvG ρ G) (mvC ρ c) v
  | .top, _, _ => by simp [mvC, Rep]
  | .val u, v, r => by simpa [mvC, Rep] using r
  | .sl r n xs, v, x => by
    simp only [mvC, Rep] at x ⊢
    obtain ⟨a, cap, h1, h2, h3, h4, h5⟩ := x
    refine ⟨a, cap, h1, h2, h3, h4, ?_⟩
    rcases h5 with h5 | ⟨blk, off, ha, hk⟩
    · left; rw [h5]; rfl
    · exact .inr ⟨blk, off, ha, mvC_repK xs blk off hk⟩
  | .sv b off n, v, x => by
    simp only [mvC]
    cases hl : loc ρ 0 b with
    | none => simp [Rep]
    | some j =>
      have hj := (loc_some hl).2
      simp only [Rep] at x ⊢
      obtain ⟨a, cap, h1, h2, h3, h4⟩ := x
      exact ⟨a, cap, h1, h2, h3, fun hz => by obtain ⟨blk, q1, q2⟩ := h4 hz; exact ⟨blk, by simp only [mvG, Nat.sub_zero] at hj ⊢; rw [hj]; exact q1, q2⟩⟩
  | .gv b m s, v, x => by
    simp only [mvC]
    cases hl : loc ρ 0 b with
    | none => simp [Rep]
    | some j =>
      have hj := (loc_some hl).2
      simp only [Nat.sub_zero] at hj
      simp only [Rep] at x ⊢
      obtain ⟨a, cap, h1, h2, h3, h4⟩ := x
      refine ⟨a, cap, h1, h2, h3, ?_⟩
      rcases h4 with h4 | ⟨blk, q1, q2, q3⟩
      · exact .inl h4
      · exact .inr ⟨blk, by simp only [mvG]; rw [hj]; exact q1, q2, by simp only [mvG]; rw [hj]; exact q3⟩
  | .bp b off, v, x => by
    simp only [mvC]
    cases hl : loc ρ 0 b with
    | none => simp [Rep]
    | some j =>
      have hj := (loc_some hl).2
      simp only [Nat.sub_zero] at hj
      simp only [Rep] at x ⊢
      obtain ⟨blk, h1, h2⟩ := x
      exact ⟨blk, by simp only [mvG]; rw [hj]; exact h1, h2⟩
  | .kp xs, v, x => by
    simp only [mvC, Rep] at x ⊢
    obtain ⟨blk, off, h1, h2⟩ := x
    exact ⟨blk, off, h1, mvC_repK xs blk off h2⟩
  | .agg xs, v, x => by
    simp only [mvC, Rep] at x ⊢
    obtain ⟨vs, h1, h2, h3⟩ := x
    exact ⟨vs, h1, mvC_repL xs _ h2, h3⟩
  | .tup xs, v, x => by
    simp only [mvC, Rep] at x ⊢
    obtain ⟨vs, h1, h2⟩ := x
    exact ⟨vs, h1, mvC_repL xs _ h2⟩
  | .fn f xs, v, x => by
    simp only [mvC, Rep] at x ⊢
    obtain ⟨vs, h1, h2⟩ := x
    exact ⟨vs, h1, mvC_repL xs _ h2⟩
theorem mvC_repL {ρ : List Nat} : ∀ (xs : List C) (vs : List Value), RepL G xs vs → RepL (mvG ρ G) (mvCs ρ xs) vs
  | [], vs, r => by simpa [mvCs, RepL] using r
  | x :: xs, vs, r => by
    simp only [mvCs, RepL] at r ⊢
    obtain ⟨v, vs', h1, h2, h3⟩ := r
    exact ⟨v, vs', h1, mvC_rep x v h2, mvC_repL xs vs' h3⟩
theorem mvC_repK {ρ : List Nat} : ∀ (xs : List C) (blk off : Nat), RepK G blk off xs → RepK (mvG ρ G) blk off (mvCs ρ xs)
  | [], _, _, _ => by simp [mvCs, RepK]
  | x :: xs, blk, off, r => by
    simp only [mvCs, RepK] at r ⊢
    obtain ⟨⟨u, h1, h2, h3⟩, h4⟩ := r
    exact ⟨⟨u, h1, h2, mvC_rep x u h3⟩, mvC_repK xs blk (off + 1) h4⟩
end
theorem mvC_own {ρ : List Nat} {c : C} {s m : Nat} {xs : List C} (h : mvC ρ c = .sl (.own s) m xs) : ∃ ys, c = .sl (.own s) m ys := by
  cases c with
  | sl r k ys => simp only [mvC] at h; cases h; exact ⟨ys, rfl⟩
  | sv b o k => simp only [mvC] at h; split at h <;> cases h
  | gv b o k => simp only [mvC] at h; split at h <;> cases h
  | bp b o => simp only [mvC] at h; split at h <;> cases h
  | _ => simp only [mvC] at h; cases h
theorem mvH_at {ρ : List Nat} {j : Nat} {cells : List C} (hj : Hp.at (mvH ρ h) j = some cells) : ∃ b cells0, ρ[j]? = some b ∧ h.at b = some cells0 ∧ cells = mvCs ρ cells0 := by
  have h1 := Hp.at_some hj
  unfold mvH at h1
  rw [List.getElem?_map] at h1
  cases hb : ρ[j]? with
  | none => rw [hb] at h1; cases h1
  | some b =>
    rw [hb] at h1
    simp only [Option.map_some, Option.some.injEq] at h1
    cases hq : h[b]? with
    | none => rw [hq] at h1; cases h1
    | some o =>
      rw [hq] at h1
      cases o with
      | none => cases h1
      | some cells0 =>
        simp only [Option.getD_some, Option.map_some, Option.some.injEq] at h1
        refine ⟨b, cells0, rfl, ?_, h1.symm⟩
        have hl := Hp.at_live hj
        unfold Hp.at
        rw [hq]
        subst h1
        show liveC (some cells0) = _
        cases cells0 with
        | nil => rfl
        | cons x l =>
          cases x with
          | tup xs => simp only [mvCs, mvC] at hl; cases hl
          | _ => rfl
def okρ (n : Nat) (ρ : List Nat) : Prop := ρ.Nodup ∧ n ≤ ρ.length ∧ ∀ j, j < n → ρ[j]? = some j
theorem loc_of : ∀ {ρ : List Nat} {k j b : Nat}, ρ.Nodup → ρ[j]? = some b → loc ρ k b = some (k + j)
  | x :: r, k, 0, b, hn, h => by simp at h; subst h; simp [loc]
  | x :: r, k, j + 1, b, hn, h => by
    rw [List.getElem?_cons_succ] at h
    have hx : b ≠ x := fun e => by
      subst e
      exact (List.nodup_cons.1 hn).1 (List.mem_of_getElem? h)
    simp only [loc]
    rw [if_neg hx, loc_of (List.nodup_cons.1 hn).2 h]
    congr 1; omega
  | [], k, j, b, hn, h => by simp at h
theorem OwnRow.mv {ρ : List Nat} {p p' : Place} {v : Value} {s m : Nat} (O : OwnRow G w p v s m) (hp : (p.1 ≠ 1 ∧ p' = p) ∨ (p.1 = 1 ∧ ∃ j, loc ρ 0 p.2.1 = some j ∧ p' = (1, j, p.2.2))) : OwnRow (mvG ρ G) w p' v s m := by
  rcases O with O | ⟨g, cap, cur, e, a1, a2, a3, a4, a5, a6⟩
  · exact .inl O
  · refine .inr ⟨g, cap, cur, e, a1, ?_, a3, a4, a5, fun b hb => ?_⟩
    · simp only [mvG, a2]
      rcases hp with ⟨h1, rfl⟩ | ⟨h1, j, h2, rfl⟩
      · rw [if_neg h1]
      · rw [if_pos h1, h2]; rfl
    · simp only [mvG] at hb
      cases hq : ρ[b]? with
      | none => rw [hq] at hb; cases hb
      | some q => rw [hq] at hb; exact a6 q hb
theorem WorldOK.mv {ρ : List Nat} (H : WorldOK G h w) (hρ : ρ.Nodup) : WorldOK (mvG ρ G) (mvH ρ h) w := by
  have hμ : ∀ {j blk}, (mvG ρ G).μ j = some blk → ∃ b, ρ[j]? = some b ∧ G.μ b = some blk := fun {j blk} x => by
    simp only [mvG] at x
    cases hq : ρ[j]? with
    | none => rw [hq] at x; cases x
    | some q => rw [hq] at x; exact ⟨q, rfl, x⟩
  refine ⟨H.known, fun j cells hj => ?_, fun j blk hm => ?_, fun j j' c c' blk hj hj' hm hm' => ?_, fun j blk hm => ?_, fun g p hg => ?_, fun j cells off s m xs blk v hj hc hm hv => ?_, fun j z hz => ?_⟩
  · obtain ⟨b, cells0, h1, h2, rfl⟩ := mvH_at hj
    rcases H.box b cells0 h2 with ⟨hE, hE2⟩ | ⟨blk, cs, e, q1, q2, q3, q4, q5⟩
    · exact .inl ⟨by rw [hE]; rfl, by simp only [mvG, h1]; exact hE2⟩
    · have hl : (mvCs ρ cells0).length = cells0.length := by rw [mvCs_map]; simp
      exact .inr ⟨blk, cs, e, by simp only [mvG, h1]; exact q1, q2, by rw [hl]; exact q3, by rw [hl]; exact mvC_repL _ _ q4, q5⟩
  · obtain ⟨b, h1, h2⟩ := hμ hm
    obtain ⟨⟨c, hc⟩, hl⟩ := H.dom b blk h2
    refine ⟨⟨mvCs ρ c, ?_⟩, hl⟩
    unfold mvH
    rw [List.getElem?_map, h1]
    simp [hc]
  · obtain ⟨b, h1, h2⟩ := hμ hm
    obtain ⟨b', h1', h2'⟩ := hμ hm'
    obtain ⟨q, cells0, g1, g2, _⟩ := mvH_at hj
    obtain ⟨q', cells0', g1', g2', _⟩ := mvH_at hj'
    rw [h1] at g1; cases g1
    rw [h1'] at g1'; cases g1'
    have e := H.inj b b' _ _ blk g2 g2' h2 h2'
    subst e
    have l1 := loc_of (k := 0) hρ h1
    have l2 := loc_of (k := 0) hρ h1'
    rw [l1] at l2
    simpa using l2
  · obtain ⟨b, h1, h2⟩ := hμ hm
    obtain ⟨s1, s2⟩ := H.sep b blk h2
    exact ⟨s1, by simp only [mvG, s2]⟩
  · cases hq : G.T g with
    | none => simp only [mvG, hq] at hg; cases hg
    | some q => exact H.tlt g q hq
  · obtain ⟨b, cells0, h1, h2, rfl⟩ := mvH_at hj
    obtain ⟨b', h1', h2'⟩ := hμ hm
    rw [h1] at h1'; cases h1'
    rw [mvCs_map, List.getElem?_map] at hc
    cases hq : cells0[off]? with
    | none => rw [hq] at hc; cases hc
    | some y =>
      rw [hq] at hc
      simp only [Option.map_some, Option.some.injEq] at hc
      obtain ⟨ys, rfl⟩ := mvC_own hc
      have O := H.own b cells0 off s m ys blk v h2 hq h2' hv
      have l1 := loc_of (k := 0) hρ h1
      exact O.mv (.inr ⟨rfl, j, by simpa using l1, rfl⟩)
  · simp only [mvG] at hz
    cases hq : ρ[j]? with
    | none => rw [hq] at hz; cases hz
    | some b =>
      rw [hq] at hz
      obtain ⟨blk, cs, e, fr, q1, q2, q3⟩ := H.siz b z hz
      exact ⟨blk, cs, e, fr, by simp only [mvG, hq]; exact q1, q2, q3⟩
theorem frmN_mv {ρ : List Nat} (hρ : okρ n ρ) : FrmN n G w (mvG ρ G) w :=
  ⟨rfl, rfl, rfl, Nat.le_refl _, fun _ _ _ x => x, fun b k hb x => by simp only [mvG]; rw [hρ.2.2 b hb]; exact x, fun b k hb x => by simp only [mvG]; rw [hρ.2.2 b hb]; exact x,
    fun g _ ht hm => ⟨rfl, by simp only [mvG, ht], fun j hj => by
      simp only [mvG] at hj
      cases hq : ρ[j]? with
      | none => rw [hq] at hj; cases hj
      | some q => rw [hq] at hj; exact hm q hj, fun _ => rfl⟩⟩
theorem mvC_noRef {ρ : List Nat} {c : C} {v : Value} (hc : noRef 0 c = true) (h : Rep G c v) : Rep (mvG ρ G) c v := by
  have h1 := noRef_rep c v hc h
  have le : (cutμ G 0).Le (mvG ρ G) := ⟨fun _ _ _ x => x, fun b k x => by simp [cutμ] at x, fun b k x => by simp [cutμ] at x⟩
  exact h1.mono le
theorem Sim.mv (hcx : CxOK cx) {a : Act} {ρ : List Nat} (hρ : ρ.Nodup) (H : Sim cx G w st a) : Sim cx (mvG ρ G) w ⟨fun t => mvC ρ (st.env t), mvH ρ st.h⟩ a :=
  ⟨H.defers, H.size, H.pre.ok.mv hρ, ⟨fun t => mvC_rep _ _ (H.pre.env.1 t), fun t s m xs e => by
    obtain ⟨ys, hy⟩ := mvC_own e
    exact (H.pre.env.2 t s m ys hy).mv (.inl ⟨by simp, rfl⟩)⟩, fun g => mvC_noRef (hcx.glo g) (H.pre.glob g)⟩
/-- Boxes renamed, or dropped. -/
theorem Tr.mv (hcx : CxOK cx) {c : Code} (ρ : List Nat) (hρ : okρ n ρ) (H : Tr cx n c ⟨fun t => mvC ρ (st.env t), mvH ρ st.h⟩ Q) : Tr cx n c st Q := fun G w a S R hR =>
  H (mvG ρ G) w a (S.mv hcx hρ.1) R fun x s G' w' a' q S' F => hR x s G' w' a' q S' ((frmN_mv hρ).trans F)
/-- The same at a join. -/
def MvQ (n : Nat) (P : St → Prop) (s : St) : Prop := ∃ ρ : List Nat, okρ n ρ ∧ P ⟨fun t => mvC ρ (s.env t), mvH ρ s.h⟩
theorem Tr.loopM {α : Type} (hcx : CxOK cx) (I : α → List (Nat × C)) (H : α → Hp) (ok : α → Prop) (μ : α → Nat) {c : Code} (a : α) (h0 : ok a) (hl : Le st.env (I a)) (hh : st.h = H a)
    (hb : ∀ a, ok a → Tr cx n c ⟨A (I a), H a⟩ (thenQ (MvQ n (At I H fun a' => ok a' ∧ μ a' < μ a)) Q)) : Tr cx n (.loop c) st Q := by
  refine Tr.loop (fun m s => ∃ ρ, okρ n ρ ∧ ∃ a, μ a = m ∧ ok a ∧ Le (fun t => mvC ρ (s.env t)) (I a) ∧ mvH ρ s.h = H a ∨ (μ a = m ∧ ok a ∧ Le s.env (I a) ∧ s.h = H a)) (μ a) ⟨List.range n, ⟨List.nodup_range, by simp, fun j hj => by simp [hj]⟩, a, .inr ⟨rfl, h0, hl, hh⟩⟩ ?_
  rintro m s ⟨ρ, hρ, a, ⟨rfl, h1, h2, h3⟩ | ⟨rfl, h1, h2, h3⟩⟩
  · refine Tr.mv hcx ρ hρ (Tr.live _ h2 ?_)
    rw [h3]
    refine (hb a h1).mono fun e s q => ?_
    cases e with
    | normal =>
      obtain ⟨ρ', hρ', a', ⟨q1, q2⟩, q3, q4⟩ := q
      exact ⟨μ a', q2, ρ', hρ', a', .inl ⟨rfl, q1, q3, q4⟩⟩
    | exit id => exact q
    | ret => exact q
  · refine Tr.live _ h2 ?_
    rw [h3]
    refine (hb a h1).mono fun e s q => ?_
    cases e with
    | normal =>
      obtain ⟨ρ', hρ', a', ⟨q1, q2⟩, q3, q4⟩ := q
      exact ⟨μ a', q2, ρ', hρ', a', .inl ⟨rfl, q1, q3, q4⟩⟩
    | exit id => exact q
    | ret => exact q
end
end Go.Sx
