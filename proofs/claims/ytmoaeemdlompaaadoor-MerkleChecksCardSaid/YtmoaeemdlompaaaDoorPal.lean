/-
   And what follows.
-/
import Derived.Lib.SlBytesConst
import Derived.SizedLaws
import Derived.JoinedCond
import Derived.Deep.CondSized
import Derived.Below
import Derived.Test.YtmoaeemdlompaaaDoorPak
set_option linter.unusedSimpArgs false
set_option linter.unusedVariables false
namespace Go.Sx
open Go.RowKit
theorem int_cast (n : Nat) : Value.int .i64 (n : Int) = nI n := id rfl
theorem int_toNat (x : Int) (h : 0 ≤ x) : Value.int .i64 x = nI x.toNat := by
  unfold nI; congr 1; omega
section
variable (P : Program) (t : TypeId)
theorem i_add (x y : Int) (h : -9223372036854775808 ≤ x + y ∧ x + y < 9223372036854775808) : binPlan P .add t (.val (.int .i64 x)) (.val (.int .i64 y)) = some (vp (.val (.int .i64 (x + y)))) := by
  simp only [bin_int,sbin,ne_eq,not_true_eq_false,if_false,Option.map_some]
  rw [wrap_i64 _ (by omega) (by omega)]
theorem i_addn (x : Int) (y : Nat) (h : -9223372036854775808 ≤ x + y ∧ x + y < 9223372036854775808) : binPlan P .add t (.val (.int .i64 x)) (.val (nI y)) = some (vp (.val (.int .i64 (x + y)))) := i_add P t x y h
theorem i_sub (x y : Int) (h : -9223372036854775808 ≤ x - y ∧ x - y < 9223372036854775808) : binPlan P .sub t (.val (.int .i64 x)) (.val (.int .i64 y)) = some (vp (.val (.int .i64 (x - y)))) := by
  simp only [bin_int,sbin,ne_eq,not_true_eq_false,if_false,Option.map_some]
  rw [wrap_i64 _ (by omega) (by omega)]
theorem i_subn (x : Int) (y : Nat) (h : -9223372036854775808 ≤ x - y ∧ x - y < 9223372036854775808) : binPlan P .sub t (.val (.int .i64 x)) (.val (nI y)) = some (vp (.val (.int .i64 (x - y)))) := i_sub P t x y h
theorem i_mul (x y : Int) (h : -9223372036854775808 ≤ x * y ∧ x * y < 9223372036854775808) : binPlan P .mul t (.val (.int .i64 x)) (.val (.int .i64 y)) = some (vp (.val (.int .i64 (x * y)))) := by
  simp only [bin_int,sbin,ne_eq,not_true_eq_false,if_false,Option.map_some]
  rw [wrap_i64 _ (by omega) (by omega)]
theorem i_nmul (x : Nat) (y : Int) (h : -9223372036854775808 ≤ x * y ∧ x * y < 9223372036854775808) : binPlan P .mul t (.val (nI x)) (.val (.int .i64 y)) = some (vp (.val (.int .i64 (x * y)))) := i_mul P t x y h
theorem i_quo (x y : Int) (h : y ≠ 0 ∧ -9223372036854775808 ≤ x.tdiv y ∧ x.tdiv y < 9223372036854775808) : binPlan P .quo t (.val (.int .i64 x)) (.val (.int .i64 y)) = some (vp (.val (.int .i64 (x.tdiv y)))) := by
  simp only [bin_int,sbin,ne_eq,not_true_eq_false,if_false,Option.map_some,h.1]
  rw [wrap_i64 _ (by omega) (by omega)]
theorem i_quon (x : Int) (y : Nat) (h : 0 < y) (hx : -9223372036854775808 ≤ x ∧ x < 9223372036854775808) : binPlan P .quo t (.val (.int .i64 x)) (.val (nI y)) = some (vp (.val (.int .i64 (x.tdiv y)))) := by
  refine i_quo P t x y ⟨by omega,?_⟩
  have key : ∀ n : Nat,(n : Int).tdiv (y : Int) = ((n / y : Nat) : Int) := fun _ => rfl
  rcases Int.le_total 0 x with h0 | h0
  · obtain ⟨n,rfl⟩ := Int.eq_ofNat_of_zero_le h0
    rw [key]
    have := Nat.div_le_self n y
    generalize n / y = q at this ⊢
    omega
  · obtain ⟨n,hn⟩ := Int.eq_ofNat_of_zero_le (a := -x) (by omega)
    have e : x = -(n : Int) := by omega
    rw [e,Int.neg_tdiv,key]
    have := Nat.div_le_self n y
    generalize n / y = q at this ⊢
    omega
theorem i_rem (x y : Int) (h : y ≠ 0) : binPlan P .rem t (.val (.int .i64 x)) (.val (.int .i64 y)) = some (vp (.val (.int .i64 (x.tmod y)))) := by
  simp only [bin_int,sbin,ne_eq,not_true_eq_false,if_false,Option.map_some,h]
theorem i_remn (x : Int) (y : Nat) (h : 0 < y) : binPlan P .rem t (.val (.int .i64 x)) (.val (nI y)) = some (vp (.val (.int .i64 (x.tmod y)))) := i_rem P t x y (by omega)
theorem i_eql (x y : Int) : binPlan P .eql t (.val (.int .i64 x)) (.val (.int .i64 y)) = some (vp (.val (.bool (decide (x = y))))) := by
  simp only [bin_int,sbin,ne_eq,not_true_eq_false,if_false,Option.map_some]
  congr 4
theorem i_lss (x y : Int) : binPlan P .lss t (.val (.int .i64 x)) (.val (.int .i64 y)) = some (vp (.val (.bool (decide (x < y))))) := by
  simp only [bin_int,sbin,ne_eq,not_true_eq_false,if_false,Option.map_some]
theorem i_gtr (x y : Int) : binPlan P .gtr t (.val (.int .i64 x)) (.val (.int .i64 y)) = some (vp (.val (.bool (decide (y < x))))) := by
  simp only [bin_int,sbin,ne_eq,not_true_eq_false,if_false,Option.map_some]
theorem i_geq (x y : Int) : binPlan P .geq t (.val (.int .i64 x)) (.val (.int .i64 y)) = some (vp (.val (.bool (decide (y ≤ x))))) := by
  simp only [bin_int,sbin,ne_eq,not_true_eq_false,if_false,Option.map_some]
theorem i_eqln (x : Int) (y : Nat) : binPlan P .eql t (.val (.int .i64 x)) (.val (nI y)) = some (vp (.val (.bool (decide (x = y))))) := i_eql P t x y
theorem i_lssn (x : Int) (y : Nat) : binPlan P .lss t (.val (.int .i64 x)) (.val (nI y)) = some (vp (.val (.bool (decide (x < y))))) := i_lss P t x y
theorem i_gtrn (x : Int) (y : Nat) : binPlan P .gtr t (.val (.int .i64 x)) (.val (nI y)) = some (vp (.val (.bool (decide ((y : Int) < x))))) := i_gtr P t x y
theorem i_geqn (x : Int) (y : Nat) : binPlan P .geq t (.val (.int .i64 x)) (.val (nI y)) = some (vp (.val (.bool (decide ((y : Int) ≤ x))))) := i_geq P t x y
theorem i_ngtr (x : Nat) (y : Int) : binPlan P .gtr t (.val (nI x)) (.val (.int .i64 y)) = some (vp (.val (.bool (decide (y < x))))) := i_gtr P t x y
theorem u_gtr (x y : Nat) : binPlan P .gtr t (.val (nU x)) (.val (nU y)) = some (vp (.val (.bool (decide (y < x))))) := by
  simp only [nU,bin_int,sbin,ne_eq,not_true_eq_false,if_false,Option.map_some]
  congr 4; rw [Bool.eq_iff_iff]; simp
theorem u_shri (x : Nat) (s : Int) (h : x < 18446744073709551616) (h2 : 0 ≤ s) : binPlan P .shr t (.val (nU x)) (.val (.int .i64 s)) = some (vp (.val (nU (x >>> s.toNat)))) := by
  rw [int_toNat s h2]; exact u_shrn P t x s.toNat h
theorem un_xoru (x : Nat) (h : x < 18446744073709551616) : unPlan .xor (.val (nU x)) = some (vp (.val (nU (18446744073709551615 - x)))) := by
  show some (vp (.val (.int .u64 (IntKind.wrap .u64 ((BitVec.ofInt 64 18446744073709551615 ^^^ BitVec.ofInt 64 (x : Int)).toNat : Int))))) = _
  have e : BitVec.ofInt 64 18446744073709551615 = BitVec.allOnes 64 := by decide
  rw [e,BitVec.ofInt_natCast,BitVec.allOnes_xor,BitVec.toNat_not,BitVec.toNat_ofNat,Nat.mod_eq_of_lt h,wrap_u64,nU]
  simp only [Option.some.injEq,vp,Plan.val.injEq,C.val.injEq,Value.int.injEq,true_and,and_true]
  have e2 : 2 ^ 64 - 1 - x = 18446744073709551615 - x := by simp
  rw [e2]; omega
theorem un_negi (x : Int) (h : -9223372036854775808 < x ∧ x ≤ 9223372036854775808) : unPlan .neg (.val (.int .i64 x)) = some (vp (.val (.int .i64 (-x)))) := by
  show some (vp (.val (.int .i64 (IntKind.wrap .i64 (0 - x))))) = _
  rw [wrap_i64 _ (by omega) (by omega),Int.zero_sub]
end
theorem idx_int (n : Nat) (x : Int) (h : 0 ≤ x ∧ x < n) : idx? (.val (.int .i64 x)) n = some x.toNat := by
  simp only [idx?,C.int?]; rw [if_pos h]
theorem mm_min (x y : Nat) : minMax false (.val (nI x)) (.val (nI y)) = some (vp (.val (nI (min x y)))) := by
  simp only [minMax,nI,if_true,Bool.false_eq_true,if_false]
  by_cases h : y < x
  · rw [if_pos (by omega),Nat.min_eq_right (by omega)]; rfl
  · rw [if_neg (by omega),Nat.min_eq_left (by omega)]; rfl
theorem mm_max (x y : Nat) : minMax true (.val (nI x)) (.val (nI y)) = some (vp (.val (nI (max x y)))) := by
  simp only [minMax,nI,if_true]
  by_cases h : x < y
  · rw [if_pos (by omega),Nat.max_eq_right (by omega)]; rfl
  · rw [if_neg (by omega),Nat.max_eq_left (by omega)]; rfl
theorem mm_maxi (x y : Int) : minMax true (.val (.int .i64 x)) (.val (.int .i64 y)) = some (vp (.val (.int .i64 (max x y)))) := by
  simp only [minMax,if_true]
  by_cases h : x < y
  · rw [if_pos h,Int.max_eq_right (by omega)]; rfl
  · rw [if_neg h,Int.max_eq_left (by omega)]; rfl
theorem mm_maxin (x : Int) (y : Nat) : minMax true (.val (.int .i64 x)) (.val (nI y)) = some (vp (.val (.int .i64 (max x y)))) := mm_maxi x y
theorem n_subG (P : Program) (t : TypeId) (x y : Nat) (h : x < 9223372036854775808 ∧ y ≤ 9223372036854775808) : binPlan P .sub t (.val (nI x)) (.val (nI y)) = some (vp (.val (.int .i64 ((x : Int) - y)))) := i_sub P t x y (by omega)
theorem CLe_int {x y : Int} (h : x = y) : CLe (.val (.int .i64 x)) (.val (.int .i64 y)) := h ▸ CLe.refl _
theorem CLe_inI {x : Int} {y : Nat} (h : x = y) : CLe (.val (.int .i64 x)) (.val (nI y)) := h ▸ CLe.refl _
theorem CLe_nIi {x : Nat} {y : Int} (h : (x : Int) = y) : CLe (.val (nI x)) (.val (.int .i64 y)) := h ▸ CLe.refl _
theorem CLe_nI {x y : Nat} (h : x = y) : CLe (.val (nI x)) (.val (nI y)) := h ▸ CLe.refl _
theorem CLe_sl {α : Type} {f : α → List C} {r : Rt} {l l' : List α} (h : l = l') : CLe (sl f r l) (sl f r l') := h ▸ CLe.refl _
theorem CLe_slf {α : Type} {f : α → List C} {r : Rt} {l l' : List α} (h : l = l') : CLe (sl f .full l) (sl f r l') := h ▸ CLe.full _ _ _
theorem CLe_sln {α : Type} {f : α → List C} {r : Rt} {l : List α} (h : l = []) : CLe (.val (.slice none 0 0)) (sl f r l) := by subst h; exact CLe.nil _
end Go.Sx
namespace Go.Sx
open Go.RowKit
mutual
theorem noRef_zero (k : Nat) : ∀ c : C,noRef 0 c = true → noRef k c = true
  | .top,_ => rfl
  | .val _,_ => rfl
  | .sl _ _ xs,h => by simp only [noRef] at h ⊢; exact noRefs_zero k xs h
  | .sv b _ _,h => by simp [noRef] at h
  | .bp b _,h => by simp [noRef] at h
  | .kp xs,h => by simp only [noRef] at h ⊢; exact noRefs_zero k xs h
  | .agg xs,h => by simp only [noRef] at h ⊢; exact noRefs_zero k xs h
  | .tup xs,h => by simp only [noRef] at h ⊢; exact noRefs_zero k xs h
  | .fn _ xs,h => by simp only [noRef] at h ⊢; exact noRefs_zero k xs h
theorem noRefs_zero (k : Nat) : ∀ l : List C,noRefs 0 l = true → noRefs k l = true
  | [],_ => rfl
  | c :: l,h => by
    simp only [noRefs,Bool.and_eq_true] at h ⊢
    exact ⟨noRef_zero k c h.1,noRefs_zero k l h.2⟩
end
def noRefE (k : Nat) : List (Nat × C) → Bool
  | [] => true
  | x :: e => noRef k x.2 && noRefE k e
theorem noRefE_nil (k : Nat) : noRefE k [] = true := rfl
theorem noRefE_cons (k t : Nat) (c : C) (e : List (Nat × C)) : noRefE k ((t,c) :: e) = (noRef k c && noRefE k e) := rfl
theorem noRefE_at (k : Nat) : ∀ e : List (Nat × C),noRefE k e = true → ∀ t,noRef k (A e t) = true
  | [],_,t => rfl
  | (u,c) :: e,h,t => by
    rw [noRefE_cons,Bool.and_eq_true] at h
    rw [A_cons]
    split
    · exact h.1
    · exact noRefE_at k e h.2 t
def noRefH (k : Nat) : Hp → Bool
  | [] => true
  | none :: h => noRefH k h
  | some cs :: h => noRefs k cs && noRefH k h
theorem noRefH_nil (k : Nat) : noRefH k [] = true := rfl
theorem noRefH_none (k : Nat) (h : Hp) : noRefH k (none :: h) = noRefH k h := rfl
theorem noRefH_some (k : Nat) (cs : List C) (h : Hp) : noRefH k (some cs :: h) = (noRefs k cs && noRefH k h) := rfl
theorem noRefH_at (k : Nat) : ∀ (h : Hp) (b : Nat) (cells : List C),noRefH k h = true → h[b]? = some (some cells) → noRefs k cells = true
  | [],b,cells,_,hb => by simp at hb
  | none :: h,0,cells,_,hb => by simp at hb
  | some cs :: h,0,cells,hk,hb => by
    rw [noRefH_some,Bool.and_eq_true] at hk
    simp only [List.getElem?_cons_zero,Option.some.injEq] at hb
    subst hb; exact hk.1
  | x :: h,b + 1,cells,hk,hb => by
    rw [List.getElem?_cons_succ] at hb
    refine noRefH_at k h b cells ?_ hb
    cases x with
    | none => exact hk
    | some cs => rw [noRefH_some,Bool.and_eq_true] at hk; exact hk.2
theorem Tr.cutA {cx : Cx} {n : Nat} {Q : Ex → St → Prop} {e : List (Nat × C)} {h : Hp} {c : Code} (hcx : CxOK cx) (k : Nat) (hk : n ≤ k) (he : noRefE k e = true) (hb : noRefH k (h.take k) = true)
    (H : Tr cx n c ⟨A e,h.take k⟩ Q) : Tr cx n c ⟨A e,h⟩ Q :=
  Tr.cut k hk (noRefE_at k e he) (fun g => noRef_zero k _ (hcx.glo g)) (fun b cells hbk hc => noRefH_at k _ b cells hb (by rw [List.getElem?_take,if_pos hbk]; exact hc)) H
theorem noRef_fn (k f : Nat) (xs : List C) : noRef k (.fn f xs) = noRefs k xs := rfl
end Go.Sx
namespace Go.Sx
open Go.RowKit
theorem rdc_getAt (d : TD) (h : d.isAgg = false) (cells : List C) (o : Nat) : getAt d cells o = rdc cells o := by
  unfold getAt rdc; rw [h]; rfl
section
variable (P : Program)
theorem eqEs_g {α : Type} [Inhabited α] [DecidableEq α] {f : α → List C} {g : α → C} [hf : Sca f g] (F : C → C → Option Bool) (de : TD) (hd : de.isAgg = false) (hs : de.size = 1) (hF : ∀ a b,F (g a) (g b) = some (decide (a = b)))
    (x y : List α) (n : Nat) (hx : x.length = n) (hy : y.length = n) : ∀ m i,i + m = n → eqEs F de (cl f x) (cl f y) (List.range' i m) = some (decide (x.drop i = y.drop i))
  | 0,i,h => by
    rw [List.drop_of_length_le (by omega),List.drop_of_length_le (by omega)]; simp [eqEs]
  | m + 1,i,h => by
    have hxi : i < x.length := by omega
    have hyi : i < y.length := by omega
    rw [List.range'_succ]
    unfold eqEs
    rw [rdc_getAt _ hd,rdc_getAt _ hd,hs,Nat.mul_one,rdc_cl (f := f) x i hxi,rdc_cl (f := f) y i hyi]
    simp only []
    rw [hF]
    have e1 : x.drop i = x.getD i default :: x.drop (i + 1) := by rw [List.drop_eq_getElem_cons hxi]; simp [List.getD,List.getElem?_eq_getElem hxi]
    have e2 : y.drop i = y.getD i default :: y.drop (i + 1) := by rw [List.drop_eq_getElem_cons hyi]; simp [List.getD,List.getElem?_eq_getElem hyi]
    rw [e1,e2]
    by_cases hab : x.getD i default = y.getD i default
    · rw [decide_eq_true hab]
      simp only []
      rw [eqEs_g F de hd hs hF x y n hx hy m (i + 1) (by omega),hab]
      simp
    · rw [decide_eq_false hab]
      simp only []
      rw [decide_eq_false]
      intro hc
      exact hab (List.cons.inj hc).1
def eqR (op : BinOp) (b : Bool) : Option Plan := match op with
  | .eql => some (vp (.val (.bool b)))
  | .neq => some (vp (.val (.bool (!b))))
  | _ => none
theorem eqR_eql (b : Bool) : eqR .eql b = some (vp (.val (.bool b))) := rfl
theorem eqPlan_some {t : TypeId} {x y : List C} {b : Bool} (op : BinOp) (hg : P.eqGuardType P.depth t = false) (h : eqC P 9 t (.agg x) (.agg y) = some b) : binPlan P op t (.agg x) (.agg y) = eqR op b := by
  show eqPlan P op t (.agg x) (.agg y) = _
  unfold eqPlan
  rw [if_pos ⟨.inl ⟨rfl,rfl⟩,hg⟩]
  unfold eqR
  cases op <;> simp [h,vp,Plan.pure]
theorem eqC_int {t : TypeId} {k : IntKind} {s y : Nat} {z : List Value} (d : Nat) (h : td P t = some ⟨.int k,s,y,z⟩) (a b : Int) : eqC P (d + 1) t (.val (.int k a)) (.val (.int k b)) = some (decide (a = b)) := by
  unfold eqC; rw [h]; simp only [if_true]; congr 1
theorem eqC_w8 {t : TypeId} {s y : Nat} {z : List Value} (d : Nat) (h : td P t = some ⟨.int .u8,s,y,z⟩) (a b : UInt8) : eqC P (d + 1) t (.val (w8 a)) (.val (w8 b)) = some (decide (a = b)) := by
  have := eqC_int P d h a.toNat b.toNat
  rw [w8,w8,this]; congr 1; rw [decide_eq_decide]
  exact ⟨fun h => UInt8.toNat_inj.1 (by omega),fun h => by rw [h]⟩
theorem eqC_arr8 {t e : TypeId} {n s y y2 : Nat} {z z2 : List Value} (d : Nat) (h : td P t = some ⟨.array n e,s,y,z⟩) (he : td P e = some ⟨.int .u8,1,y2,z2⟩) (a b : List UInt8) (ha : a.length = n) (hb : b.length = n) :
    eqC P (d + 2) t (.agg (cl bC a)) (.agg (cl bC b)) = some (decide (a = b)) := by
  unfold eqC; rw [h]; simp only []; rw [he]
  simp only [C.agg?]
  have := eqEs_g (f := bC) (eqC P (d + 1) e) ⟨.int .u8,1,y2,z2⟩ rfl rfl (fun a b => eqC_w8 P d he a b) a b n ha hb n 0 (by omega)
  simpa using this
theorem eq_arr8 {t e : TypeId} {n s y y2 : Nat} {z z2 : List Value} (h : td P t = some ⟨.array n e,s,y,z⟩) (he : td P e = some ⟨.int .u8,1,y2,z2⟩) (hg : P.eqGuardType P.depth t = false) (op : BinOp) (a b : List UInt8) (ha : a.length = n) (hb : b.length = n) :
    binPlan P op t (.agg (cl bC a)) (.agg (cl bC b)) = eqR op (decide (a = b)) := eqPlan_some P op hg (eqC_arr8 P 7 h he a b ha hb)
end
@[congr] theorem stG_congr {cx : Cx} {apps : List Nat} {dsts : List (Option Nat)} {l : List Oper} {id : Nat} {d : Option Nat} {e : List (Nat × C)} {h : Hp} {fs : List FP} {K : List FP → St → Prop} {ty : TypeId} {pos : String} {aft : Array Edge} {op : Op} {p p' : Option Bool} (hp : p = p') :
    stG cx apps dsts l id d e h fs K ty pos aft op p = stG cx apps dsts l id d e h fs K ty pos aft op p' := by rw [hp]
def wanV (c : C) (w : Bool) : Option Bool := match c with
  | .val (.bool b) => some (b == w)
  | .val (.tuple _) => some false
  | _ => none
def wanQ (d : Option (Option Nat)) (w : Bool) (e : List (Nat × C)) : Option Bool := match d.bind id with
  | none => some false
  | some t => wanV (A e t).noR w
theorem wanted_q (dsts : List (Option Nat)) (j : Nat) (w : Bool) (e : List (Nat × C)) : wantedA dsts (some (j,w)) (A e) = wanQ (dsts[j]?) w e := rfl
theorem wanQ_some (t : Nat) (w : Bool) (e : List (Nat × C)) : wanQ (some (some t)) w e = wanV (A e t).noR w := rfl
theorem wanV_T (b : Bool) : wanV (.val (.bool b)) true = some b := by cases b <;> rfl
theorem wanV_F (b : Bool) : wanV (.val (.bool b)) false = some (!b) := by cases b <;> rfl
theorem wanV_u (w : Bool) : wanV (.val undef) w = some false := rfl
end Go.Sx
namespace Go.Sx
open Go.RowKit
section
variable {cx : Cx} {G : Gh} {w : World} {st : St} {a : Act}
structure Lit (cx : Cx) (ops ops' : Array Oper) (k : Nat) : Prop where
  dst : ops'.toList.map (·.dst) = ops.toList.map (·.dst)
  app : ops'.toList.filterMap appOf = ops.toList.filterMap appOf
  cnt : ∀ i,cnt ops' i = cnt ops i
  same : ∀ i,i ≠ k + 1 → ops'[i]? = ops[i]?
  two : ∃ p q t n ps ty1 pos1 aft1 ty2 pos2 aft2 e s y z y2 z2,ops[k]? = some ⟨some p,.buildSlice t n ps,ty1,pos1,aft1,none⟩ ∧ ops[k + 1]? = some ⟨some q,.convert t t (.tmp p),ty2,pos2,aft2,none⟩ ∧
    ops'[k + 1]? = some ⟨some q,.move (.tmp p),ty2,pos2,aft2,none⟩ ∧ td cx.P t = some ⟨.slice e,s,y,z⟩ ∧ td cx.P e = some ⟨.int .u8,1,y2,z2⟩ ∧ cx.gr p = false
end
end Go.Sx
namespace Go.Sx
open Go.RowKit
class Inj {α : Type} (f : α → List C) : Prop where
  inj : ∀ a b,f a = f b → a = b
instance : Inj bC := ⟨fun a b h => by simpa [bC,w8_inj] using h⟩
instance : Inj wC := ⟨fun a b h => by simpa [wC,w32_inj] using h⟩
instance : Inj sC := ⟨fun a b h => by simpa [sC,str_inj] using h⟩
instance : Inj nC := ⟨fun a b h => by simpa [nC,nI_inj] using h⟩
instance : Inj iC := ⟨fun a b h => by simpa [iC] using h⟩
instance : Inj oC := ⟨fun a b h => by simpa [oC] using h⟩
theorem cl_inj {α : Type} {f : α → List C} {s : Nat} [hf : Cel f s] [hi : Inj f] : ∀ {l l' : List α},cl f l = cl f l' ↔ l = l' := by
  intro l l'
  constructor
  · induction l generalizing l' with
    | nil =>
      intro h
      cases l' with
      | nil => rfl
      | cons a l' =>
        have := congrArg List.length h
        rw [cl_nil,cl_cons,List.length_append,hf.len] at this
        have := hf.pos
        simp at *
        omega
    | cons a l ih =>
      intro h
      cases l' with
      | nil =>
        have := congrArg List.length h
        rw [cl_nil,cl_cons,List.length_append,hf.len] at this
        have := hf.pos
        simp at *
        omega
      | cons b l' =>
        rw [cl_cons,cl_cons] at h
        obtain ⟨h1,h2⟩ := List.append_inj h (by rw [hf.len,hf.len])
        rw [hi.inj _ _ h1,ih h2]
  · rintro rfl; rfl
theorem sl_inj {α : Type} {f : α → List C} {s : Nat} [hf : Cel f s] [hi : Inj f] {r : Rt} {l l' : List α} : sl f r l = sl f r l' ↔ l = l' := by
  constructor
  · intro h
    simp only [sl,C.sl.injEq,true_and] at h
    exact cl_inj.1 h.2
  · rintro rfl; rfl
theorem app_inj {α : Type} {f : α → List C} {s : Nat} [hf : Cel f s] [hi : Inj f] {l l' : List α} {r r' : List C} (hl : l.length = l'.length) : cl f l ++ r = cl f l' ++ r' ↔ l = l' ∧ r = r' := by
  constructor
  · intro h
    obtain ⟨h1,h2⟩ := List.append_inj h (by rw [cl_len (f := f),cl_len (f := f),hl])
    exact ⟨cl_inj.1 h1,h2⟩
  · rintro ⟨rfl,rfl⟩; rfl
end Go.Sx
namespace Go.Sx
open Go.RowKit
attribute [go_sem ↓] A_cons GB_true GB_false
attribute [go_sem] allocG_F callQ_some callQ_none callR_rd refBox_sv refBox_bp refBox_agg refBox_val refBox_kp oneB_nil oneB_val oneB_kp oneB_tsl oneB_bpn rdPu_eq rdQ_some rdR_true frzs_nil frzs_cons frz_agg frz_sv frzS_allL frzS_RL noRef_val noRef_agg noRef_tup noRef_kp noRef_sl noRefs_cl noRefs_cons noRefs_nil noRefs_app flat_agg flats_cl flats_app Bool.and_self Bool.and_true on_tmp on_const on_global on_func orw_tmp orw_const tmpq_tmp tmpq_const not_true_eq_false not_false_eq_true noR_val noR_full noR_sv noR_bp noR_kp noR_agg noR_tup noR_fn noR_slno noR_slfull noR_slown run_nil run_mvt run_mvc run_asg run_pick run_alloc run_box run_build run_buildS run_load run_store run_nilc run_bin run_un run_conv run_sta run_mkf run_slice run_fa run_ixa run_ix run_extr run_len run_app run_copy run_min run_max run_call run_mkS run_mkN run_guard bump_move bump_pick bump_build bump_load bump_nilCheck bump_binOp bump_fieldAddr bump_indexAddr bump_call stV_vp stV_val0 stV_valk stV_rd stV_wr stV_xr stV_new stV_call stR_some stW_some0 stW_somek stC_some stN_some stG_some AN_true dOK_some dOK_none lit_w32o lit_w8o lit_nIo lit_nUo str_mk mvP isA_nil isA_cons Bool.or_false Bool.false_or Bool.true_or Bool.or_true beq_self_eq_true onM onP List.map_nil List.map_cons Option.map_none Option.map_some Option.bind_some Option.bind_none thenQ_n bin_bool binB_neq w_add w_xor w_and w_or w_not w_shln w_shlu w_shrn w_shru b_xor b_sub n_add n_sub n_mul n_quo n_rem n_eql n_neq n_lss n_leq n_gtr n_geq u_add u_sub u_mul u_rem u_and31 u_shrn un_negn un_not u_shru s_eql s_neq s_add s_lss int_cast ne_eq wanted_q wanQ_some wanV_T wanV_F wanV_u eqR_eql eq_self decide_true decide_false Bool.not_true Bool.not_false i_add i_addn i_sub i_subn i_mul i_nmul i_quo i_quon i_rem i_remn i_eql i_lss i_gtr i_geq i_eqln i_lssn i_gtrn i_geqn i_ngtr u_gtr u_shri un_xoru un_negi idx_int mm_min mm_max mm_maxi mm_maxin conv_td cv_u8u32 cv_nu64 cv_u64n cv_u32u8 cv_u64u8 cv_nu8 cv_iu8 cv_iu64 cv_sb cvB_u8 cv_bs cvS_u8 cv_vs cvV_u8 load_bp ldB_int ldB_bool ldB_str ldB_sl ldB_slo ldB_arr ldB_struct load_kp ldK_int ldK_str ldK_sl ldK_arr ldK_struct store_val store_agg store_fn store_sl stS_one stB_many cells_w32 cells_w8 cells_nI cells_nU cells_int cells_str cells_bool cells_agg cl_noR box_cs boxQ_some alloc_z alQ_true allOne_nil allOne_cons allOne_app allOne_rep zc_nil zc_cons zc_app zc_rep one_w32 one_w8 one_nI one_nU one_str one_bool one_slice build_struct bldS_true plc_nil plc_cons plQ_some layS_nil layS_cons layQ_some layW_some rep_1 rep_w32 rep_w8 rep_nI idx_nI bound_nI bound_none ixa_td ixS_some ixa_ab ixa_akT ixK_some ixa_sv ixa_slT ixL_some inx_td inx_arr getP_int len_td len_str len_sv len_sl Nat.mul_one Nat.zero_add Nat.add_zero slice_td sl2_none sl2_nI slS_some slP_str slQ_some slP_sv slP_ab slP_slT slH_some sta_T cp_strT app_td app_ss app_st apQ_own apQ_full apQ_nil apQ_strs copy_td pick_tf pick_ff nilP extractP callP shares List.append_nil share_w32 share_nI share_strs share_val share_sv share_bp share_agg share_fn share_slno share_slfull rds_cl wrc_full rda_full cpc_clRR cpc_clL List.map_append gt_cons0 gt_consS rda_clM build_arr buildA_w buildA_b lay1_nil lay1_w lay1_b bs_slice bsA_b bsA_n bsA_s lay1s_b lay1s_s lay1s_nil rep_str Nat.sub_zero Nat.zero_mul List.drop_zero List.drop_succ_cons List.take_succ_cons List.take_zero at_cons0 at_consS rdc_cons0 rdc_consS rdc_drop rdc_cl rdc_clL rdc_clE rdc_clRR rda_clL wrc_w wrc_b wrc_clE wrc_clRR wrc_clA wrc_clAL wrs_one List.set_cons_zero List.set_cons_succ List.getElem?_cons_zero List.getElem?_cons_succ List.length_nil List.length_cons List.nil_append List.cons_append Nat.add_sub_cancel_left List.length_set List.length_replicate gt_def
end Go.Sx
namespace Go.Sx
open Go.RowKit Go.ChangeShapes
theorem laid_ints {H : Type} {enc : TypeId × Value → H} {P : Program} {W : World} {base : Nat} {sp : Nat → Bool} {held : Bool} {fuel : Nat} {t e : TypeId} {n : Nat} {k : IntKind} {cs : List Value} {p : List MemPlace} {ns : List Int}
    (ht : P.underlying t = some (.array n e)) (he : P.underlying e = some (.int k)) (hc : P.cellsOf e = 1) (hn : P.cellsOf t = n)
    (h : DataW.trod enc P W base sp held fuel t cs = some (.agg (ns.map fun m => .lit (.int k m)),p)) : cs = ns.map (.int k ·) := by
  obtain ⟨xs,m,_,hx,hlen,hxl,hel⟩ := DataW.trod_array ht h
  simp only [Prod.mk.injEq,DataW.agg.injEq] at hx
  have hnl : ns.length = n := by
    have := congrArg List.length hx.1
    simp only [List.length_map] at this; omega
  have each : ∀ i < n,∃ z,cs[i]? = some (.int k z) ∧ ns[i]? = some z := fun i hi => by
    have h1 := hel i hi
    rw [List.getElem?_eq_getElem (by omega),hc,Nat.mul_one] at h1
    obtain ⟨z,h2,h3,_⟩ := DataW.trod_int he h1
    refine ⟨z,?_,?_⟩
    · have h4 := congrArg (fun l => l[0]?) h2
      simpa [List.getElem?_take,List.getElem?_drop] using h4
    · have h5 := congrArg (fun l => l[i]?) hx.1
      simp only [List.getElem?_map] at h5
      rw [List.getElem?_eq_getElem (l := xs) (by omega),h3] at h5
      simp only [Option.map_some] at h5
      cases hq : ns[i]? with
      | none => rw [hq] at h5; cases h5
      | some z' => rw [hq] at h5; simp only [Option.map_some,Option.some.injEq,DataW.lit.injEq,Lit.int.injEq,true_and] at h5; rw [h5]
  apply List.ext_getElem?
  intro i
  by_cases hi : i < n
  · obtain ⟨z,h1,h2⟩ := each i hi
    rw [h1,List.getElem?_map,h2]; rfl
  · rw [List.getElem?_eq_none (by omega),List.getElem?_eq_none (by simp; omega)]
theorem glob_words {P : Program} {W : World} {n : String} {g t e m fuel : Nat} {enc : TypeId × Value → Unit} {sp : Nat → Bool} {held : Bool} {cs : Array Value} {p : List MemPlace} {ws : List (BitVec 32)}
    (hg : P.globalNamed n = some g) (hv : W.var? P n = some cs) (ht : P.underlying t = some (.array m e)) (he : P.underlying e = some (.int .u32)) (hc : P.cellsOf e = 1) (hn : P.cellsOf t = m)
    (h : DataW.trod enc P W 0 sp held fuel t cs.toList = some (.agg ((ws.map fun w => (w.toNat : Int)).map fun m => .lit (.int .u32 m)),p)) : Rep (GW W) (.kp (cl wC ws)) (.pointer (some ⟨g,0,none⟩)) := by
  have hcs := laid_ints ht he hc hn h
  simp only [Rep]
  refine ⟨g,0,rfl,RepK.of_get fun i x hx => ?_⟩
  have hi : i < ws.length := by
    have := (List.getElem?_eq_some_iff.1 hx).1
    rw [cl_len (f := wC)] at this; omega
  rw [cl_get (f := wC) ws i hi] at hx
  simp only [Option.some.injEq] at hx
  subst hx
  refine ⟨w32 (ws.getD i default),?_,rfl,rep_val.2 rfl⟩
  show W.cell? ⟨g,0 + i,none⟩ = _
  rw [World.var?_cell hg hv,Nat.zero_add,← Array.getElem?_toList,hcs]
  simp [List.getElem?_map,List.getD,List.getElem?_eq_getElem hi,w32]
theorem trods_cons {H : Type} {enc : TypeId × Value → H} {P : Program} {W : World} {b : Nat} {sp : Nat → Bool} {hd : Bool} {t : TypeId} {ts : List TypeId} {vs : List Value} {ds : List (DataW H)} {ps : List MemPlace}
    (h : DataW.TrodAll enc P W b sp hd (t :: ts) vs ds ps) : ∃ v vs' d ds' p q,vs = v :: vs' ∧ ds = d :: ds' ∧ DataW.Trod enc P W b sp hd t v d p ∧ DataW.TrodAll enc P W b sp hd ts vs' ds' q := by
  cases vs <;> cases ds <;> simp only [DataW.TrodAll] at h
  obtain ⟨p,q,h1,h2,_⟩ := h
  exact ⟨_,_,_,_,p,q,rfl,rfl,h1,h2⟩
theorem trods_nil {H : Type} {enc : TypeId × Value → H} {P : Program} {W : World} {b : Nat} {sp : Nat → Bool} {hd : Bool} {vs : List Value} {ds : List (DataW H)} {ps : List MemPlace}
    (h : DataW.TrodAll enc P W b sp hd [] vs ds ps) : vs = [] := by
  cases vs <;> cases ds <;> simp only [DataW.TrodAll] at h <;> rfl
def AR (P : Program) (t : TypeId) {α : Type} (g : α → C) (ok : α → Prop) : Prop :=
  ∀ {H : Type} {enc : TypeId × Value → H} {W : World} {base b0 : Nat} {sp : Nat → Bool} {held : Bool} {v : Value} {d : DataW H} {ps : List MemPlace},
    Value.okWide P W .any b0 t v → DataW.Trod enc P W base sp held t v d ps → ∃ a,ok a ∧ Rep (GW W) (g a) v
section
variable {P : Program} {t e : TypeId}
theorem ar_int {s y : Nat} {z : List Value} (h : td P t = some ⟨.int .i64,s,y,z⟩) : AR P t (fun n : Int => .val (.int .i64 n)) fun n => -9223372036854775808 ≤ n ∧ n ≤ 9223372036854775807 :=
  fun h1 h2 => arg_one (f := iC) (fun _ => rfl) (rds_int (td_spec h).1) (fun u hu => by rw [(td_spec h).1] at hu; cases hu; trivial) h1 h2
theorem ar_slice {α : Type} {f : α → List C} {ok : α → Prop} {s0 s y : Nat} [hf : Cel f s0] {z : List Value} (h : td P t = some ⟨.slice e,s,y,z⟩) (hc : P.cellsOf e = s0) (he : Rds P e f ok) : AR P t (fun l : List α => sl f .no l) fun l => l.length ≤ 9223372036854775807 ∧ ∀ a ∈ l,ok a :=
  fun h1 h2 => arg_one (f := fun l => [sl f .no l]) (fun _ => rfl) (rds_slice (td_spec h).1 hc he) (fun u hu => by rw [(td_spec h).1] at hu; cases hu; trivial) h1 h2
end
end Go.Sx
namespace Go.Sx
attribute [go_sem] one_w32 one_w8 one_nI one_nU one_str one_bool one_slice refy_sv refy_bp refy_agg refy_val refy_kp refy_tsl cl_len thenQ_n thenQ_r blockQ_n blockQ_r EndsR_r resL_one resC_tmp resC_cell rcP_arr rcP_struct Le_nil Le_cons CLe_refl CLe_top CLe_full CLe_nil CLe_own ev_tmp condG_bool noRef_fn true_and and_true
end Go.Sx
namespace Go.Sx
open Go.RowKit
abbrev Dig := {l : List UInt8 // l.length = 16}
instance : Inhabited Dig := ⟨⟨List.replicate 16 0,by simp⟩⟩
def dC (d : Dig) : List C := cl bC d.1
instance : Cel dC 16 := ⟨fun a => by unfold dC; rw [cl_len (f := bC),a.2],fun a => by unfold dC; exact cl_noR a.1,by decide,fun a r => by
  unfold dC
  obtain ⟨l,hl⟩ := a
  cases l with
  | nil => simp at hl
  | cons b l => rfl⟩
instance : Fla dC := ⟨fun a => by unfold dC; exact flats_cl bC a.1⟩
instance : Inj dC := ⟨fun a b h => Subtype.ext (cl_inj.1 h)⟩
theorem dC_eq (d : Dig) : dC d = cl bC d.1 := rfl
theorem rda_dropE {α : Type} [Inhabited α] {f : α → List C} {s : Nat} [hf : Cel f s] (l : List α) (k : Nat) (h : k < l.length) : rda ((cl f l).drop (k * s)) 0 s = some (.agg (f (gt l k))) := by
  rw [← gt_def,← rda_clE (f := f) l k h]
  unfold rda
  simp only [List.length_drop,List.drop_drop,Nat.add_zero,Nat.zero_add]
  have h1 := cl_len (f := f) l
  have h2 : k * s + s ≤ l.length * s := by rw [← Nat.succ_mul]; exact Nat.mul_le_mul_right _ h
  rw [if_pos (by omega),if_pos (by omega)]
theorem bsA_dig (u : TypeDesc) (y : Nat) (z : List Value) (l : List UInt8) (h : l.length = 16) (hz : z.length = 16) (h1 : z.all (·.oneCell') = true) : bsA (some ⟨u,16,y,z⟩) 1 [(0,.agg (cl bC l))] = some (vp (sl dC .full [⟨l,h⟩])) := by
  unfold bsA
  simp only [hz,h1]
  rw [if_pos ⟨by decide,by decide,trivial,trivial⟩]
  have hl := cl_len (f := bC) l
  have hr : (repZero z 1).length = 16 := by simp [repZero,hz]
  have hc : C.cells? (.agg (cl bC l)) = some (cl bC l) := by
    show some ((cl bC l).map C.noR) = _
    rw [cl_noR]
  unfold lay
  simp only [hc]
  rw [if_pos ⟨by omega,by omega⟩]
  unfold lay
  simp only [Option.map_some,splice,Nat.zero_mul,List.take_zero,List.nil_append,Nat.zero_add]
  rw [List.drop_of_length_le (by omega),List.append_nil]
  congr 2
  simp [sl,cl_cons,cl_nil,dC]
def res2 (a b : Option C) : Option C := match a,b with
  | some a,some b => some (.tup [a.noR,b.noR])
  | _,_ => none
def res3 (a b c : Option C) : Option C := match a,b,c with
  | some a,some b,some c => some (.tup [a.noR,b.noR,c.noR])
  | _,_,_ => none
theorem resL_2 (cx : Cx) (st : St) (r1 r2 : ResultVar) : resL cx st [r1,r2] = res2 (resC cx st r1) (resC cx st r2) := by
  unfold resL res2
  simp only [List.mapM_cons,List.mapM_nil,Option.bind_eq_bind,Option.pure_def]
  cases resC cx st r1 <;> cases resC cx st r2 <;> rfl
theorem resL_3 (cx : Cx) (st : St) (r1 r2 r3 : ResultVar) : resL cx st [r1,r2,r3] = res3 (resC cx st r1) (resC cx st r2) (resC cx st r3) := by
  unfold resL res3
  simp only [List.mapM_cons,List.mapM_nil,Option.bind_eq_bind,Option.pure_def]
  cases resC cx st r1 <;> cases resC cx st r2 <;> cases resC cx st r3 <;> rfl
theorem res2_some (a b : C) : res2 (some a) (some b) = some (.tup [a.noR,b.noR]) := rfl
theorem res3_some (a b c : C) : res3 (some a) (some b) (some c) = some (.tup [a.noR,b.noR,c.noR]) := rfl
attribute [go_sem] resL_2 resL_3 res2_some res3_some
attribute [go_sem] dC_eq rda_dropE bsA_dig
end Go.Sx
namespace Go.Sx
open Go.RowKit
theorem lay1s_i (n : Nat) (l : List Int) (i : Nat) (x : Int) (r : List (Nat × C)) (h : i < l.length) : lay1s n (cl iC l) ((i,.val (.int .i64 x)) :: r) = lay1s n (cl iC (l.set i x)) r := by
  have e := cl_set (f := iC) l i x h
  rw [Nat.mul_one] at e
  have e2 : splice (cl iC l) i [.val (.int .i64 x)] = cl iC (l.set i x) := e
  show (if [C.val (.int .i64 x)].length = 1 ∧ i + 1 ≤ (cl iC l).length then lay1s n (splice (cl iC l) i [.val (.int .i64 x)]) r else none) = _
  rw [if_pos ⟨rfl,by rw [cl_len (f := iC)]; omega⟩,e2]
theorem cl_nC_iC (l : List Nat) : cl nC l = cl iC (l.map Int.ofNat) := by
  unfold cl
  rw [List.flatMap_map]
  rfl
theorem lay1s_ni (n : Nat) (l : List Nat) (i : Nat) (x : Int) (r : List (Nat × C)) (h : i < l.length) : lay1s n (cl nC l) ((i,.val (.int .i64 x)) :: r) = lay1s n (cl iC ((l.map Int.ofNat).set i x)) r := by
  rw [cl_nC_iC,lay1s_i n _ i x r (by simpa using h)]
attribute [go_sem] lay1s_i lay1s_ni List.map_cons List.map_nil List.set_cons_zero
end Go.Sx
namespace Go.Sx
open Go.RowKit
theorem callR_hp (cx : Cx) (g : Nat) (az : List C) (b : Nat) (r : C × Hp) : callR cx g az (some b) (some r) = some (.call g az) := rfl
theorem callR_none (cx : Cx) (g : Nat) (az : List C) (o : Option (C × Hp)) : callR cx g az none o = some (.call g az) := rfl
theorem cells_sl {α : Type} (f : α → List C) (r : Rt) (l : List α) : (sl f r l).cells? = some [(sl f r l).noR] := rfl
attribute [go_sem] cells_sl callR_hp callR_none
end Go.Sx
namespace Go.Sx
open Go.RowKit
def lC {α : Type} (f : α → List C) (l : List α) : List C := [sl f .no l]
instance {α : Type} (f : α → List C) : Sca (lC f) (sl f .no) := ⟨fun _ => rfl,fun _ => rfl,fun _ => rfl,fun _ _ => rfl⟩
attribute [go_sem] List.nil_append List.cons_append
end Go.Sx
namespace Go.Sx
open Go.RowKit
open Classical in
noncomputable def tabH {α : Type} (enc : α → List C × Hp) (out : α → C × Hp) (xs : List C) (h : Hp) : Option (C × Hp) :=
  if q : ∃ a,enc a = (xs,h) then some (out q.choose) else none
theorem tabH_enc {α : Type} {enc : α → List C × Hp} {out : α → C × Hp} (hi : ∀ a b,enc a = enc b → out a = out b) (a : α) : tabH enc out (enc a).1 (enc a).2 = some (out a) := by
  have h : ∃ b,enc b = ((enc a).1,(enc a).2) := ⟨a,rfl⟩
  unfold tabH
  rw [dif_pos h]
  exact congrArg some (hi _ _ h.choose_spec)
theorem tabH_some {α : Type} {enc : α → List C × Hp} {out : α → C × Hp} {xs : List C} {h : Hp} {r : C × Hp} (e : tabH enc out xs h = some r) : ∃ a,enc a = (xs,h) ∧ out a = r := by
  unfold tabH at e
  split at e
  · rename_i h2; exact ⟨_,h2.choose_spec,Option.some.inj e⟩
  · cases e
def extH (hp : Nat → List C → Hp → Option (C × Hp)) (f : Nat) (t : List C → Hp → Option (C × Hp)) : Nat → List C → Hp → Option (C × Hp) := fun g xs h => if g = f then t xs h else hp g xs h
theorem extH_hit {hp : Nat → List C → Hp → Option (C × Hp)} {f : Nat} {t : List C → Hp → Option (C × Hp)} (xs : List C) (h : Hp) : extH hp f t f xs h = t xs h := if_pos rfl
theorem extH_miss {hp : Nat → List C → Hp → Option (C × Hp)} {f g : Nat} {t : List C → Hp → Option (C × Hp)} (n : g ≠ f) (xs : List C) (h : Hp) : extH hp f t g xs h = hp g xs h := if_neg n
theorem CxOK.extH {P : Program} {km : TypeId → Value → Bool} {gl : Nat → C} {pu : Nat → List C → Option C} {hp : Nat → List C → Hp → Option (C × Hp)} {N M : Nat} (hcx : CxOK ⟨P,N,gl,pu,hp,fun _ => false,km⟩)
    {α : Type} {enc : α → List C × Hp} {out : α → C × Hp} {f : Nat} (h : ∀ a,FC P gl f (enc a).1 (enc a).2 (out a).1 (out a).2) : CxOK ⟨P,M,gl,pu,Sx.extH hp f (tabH enc out),fun _ => false,km⟩ := by
  refine ⟨hcx.glo,hcx.pu,fun g xs k c k' hc => ?_,hcx.km⟩
  by_cases hgf : g = f
  · subst hgf
    have hc' : tabH enc out xs k = some (c,k') := by rw [← hc]; exact (extH_hit xs k).symm
    obtain ⟨a,e1,e2⟩ := tabH_some hc'
    have := h a
    rw [e1,e2] at this
    exact this
  · have hc' : hp g xs k = some (c,k') := by rw [← hc]; exact (extH_miss hgf xs k).symm
    exact hcx.hp g xs k c k' hc'
end Go.Sx
namespace Go.Sx
open Go.RowKit Go.ChangeShapes Go.WideShapes
structure BulkOK {H : Type} (B : DataW H → Nat) (BA : List (DataW H) → Nat) : Prop where
  one : ∀ d,1 ≤ B d
  str : ∀ s,B (.lit (.string s)) = s.length + 1
  slice : ∀ e s,B (.slice e s) = BA e + BA s + 1
  agg : ∀ e,B (.agg e) = BA e + 1
  nil : BA [] = 0
  cons : ∀ d r,BA (d :: r) = B d + BA r
end Go.Sx
namespace Go.Sx
open Go.RowKit Go.ChangeShapes Go.WideShapes
end Go.Sx
namespace Go.Sx
open Go.RowKit
theorem repL_vals {G : Gh} : ∀ {vals vs : List Value},RepL G (vals.map .val) vs → vs = vals
  | [],vs,h => by simpa [RepL] using h
  | v :: vals,vs,h => by
    rw [List.map_cons] at h
    simp only [RepL] at h
    obtain ⟨u,us,rfl,h2,h3⟩ := h
    rw [rep_val] at h2
    rw [h2,repL_vals h3]
theorem FC.ofBelow {P : Program} {gl : Nat → C} {f : Nat} {vals : List Value} {v : Value} (he : Entered P f) (h : ∀ w,Calls P f vals.toArray w fun e w' => e = .returned v ∧ Below w.heap.size w w') : FC P gl f (vals.map .val) [] (.val v) [] := by
  refine ⟨he,fun G w vs W hT hg hr => ?_⟩
  obtain rfl : vs = vals.toArray := by rw [← repL_vals hr]
  refine (h w).mono ?_
  rintro e w' ⟨rfl,hb⟩
  have hlt : ∀ blk off u,G.K blk off = some u → blk < w.heap.size := fun blk off u hk => by
    have := W.known blk off u hk
    unfold World.cell? at this
    cases hq : w.heap[blk]? with
    | none => rw [hq] at this; simp at this
    | some o => exact (Array.getElem?_eq_some_iff.1 hq).1
  have hn : ∀ b cells,Hp.at [] b ≠ some cells := fun b cells => by simp [Hp.at]
  refine ⟨v,G,rfl,rep_val.2 rfl,(fun s n xs e => by cases e),⟨fun blk off u hk => ?_,fun b cells hc => (hn b cells hc).elim,(fun b blk x => ⟨(W.dom b blk x).1,Nat.lt_of_lt_of_le (W.dom b blk x).2 hb.size⟩),W.inj,W.sep,(fun g p hp => Nat.lt_of_lt_of_le (W.tlt g p hp) hb.size),(fun b cells off s n xs blk v hc => (hn b cells hc).elim),fun b z hz => ?_,(fun b l hb => by simp [Hp.mp] at hb),(fun b b' l l' blk hb => by simp [Hp.mp] at hb)⟩,
    ⟨hb.os,hb.tape,hb.output,hb.size,.refl G,fun g hg' ht hm => ⟨hb.block g hg',ht,hm,fun _ => rfl⟩⟩⟩
  · rw [← W.known blk off u hk]
    unfold World.cell?
    rw [hb.block blk (hlt blk off u hk)]
  · obtain ⟨blk,cs,e,fr,q1,q2,q3⟩ := W.siz b z hz
    obtain ⟨⟨c,hc⟩,_⟩ := W.dom b blk q1
    simp at hc
end Go.Sx
namespace Go.Sx
open Go.RowKit
def Cx.grow (cx : Cx) (l : List Nat) : Cx := { cx with gr := fun t => l.contains t }
section
variable {cx : Cx} {n : Nat} {st : St} {Q : Ex → St → Prop} {G : Gh} {w : World} {h : Hp}
theorem CxOK.grow (hcx : CxOK cx) (l : List Nat) : CxOK (cx.grow l) := ⟨hcx.glo,hcx.pu,hcx.hp,hcx.km⟩
theorem Sim.grow {a : Act} (H : Sim cx G w st a) (l : List Nat) : Sim (cx.grow l) G w st a := ⟨H.defers,H.size,H.pre.ok,H.pre.env,H.pre.glob⟩
theorem Sim.ungrow {a : Act} {l : List Nat} (H : Sim (cx.grow l) G w st a) : Sim cx G w st a := ⟨H.defers,H.size,H.pre.ok,H.pre.env,H.pre.glob⟩
theorem Tr.gw (l : List Nat) {c : Code} (H : Tr (cx.grow l) n c st Q) : Tr cx n c st Q := fun G w a S R hR =>
  H G w a (S.grow l) R fun x s G' w' a' q S' F => hR x s G' w' a' q S'.ungrow F
theorem Tr.rgG (hcx : CxOK cx) (gs : List Nat) {e : List (Nat × C)} {id : Nat} {l : List Oper} (apps : List Nat) (dsts : List (Option Nat)) (z : Hp) (h1 : l.filterMap appOf = apps) (h2 : l.map (·.dst) = dsts) (h3 : nones l = z)
    (H : run (cx.grow gs) apps dsts l h.length e (h ++ z) [] (fun _ s => Q .normal s)) : Tr cx n (.region id l.toArray false) ⟨A e,h⟩ Q :=
  Tr.gw gs (Tr.rg (hcx.grow gs) apps dsts z h1 h2 h3 H)
theorem Tr.rgDG (hcx : CxOK cx) (hm : cx.P.follows .mixedOrders = true) (gs : List Nat) {e : List (Nat × C)} {id : Nat} {l : List Oper} (apps : List Nat) (dsts : List (Option Nat)) (z : Hp) (h1 : l.filterMap appOf = apps) (h2 : l.map (·.dst) = dsts) (h3 : nones l = z)
    (hs : regStatic l.toArray = true)
    (H : run (cx.grow gs) apps dsts l h.length e (h ++ z) [] (fun fs s => confsOK l.toArray fs.reverse = true ∧ Q .normal s)) : Tr cx n (.region id l.toArray true) ⟨A e,h⟩ Q :=
  Tr.gw gs (Tr.rgD (hcx.grow gs) hm apps dsts z h1 h2 h3 hs H)
def loc : List Nat → Nat → Nat → Option Nat
  | [],_,_ => none
  | x :: r,k,b => if b = x then some k else loc r (k + 1) b
theorem loc_some : ∀ {ρ : List Nat} {k b j : Nat},loc ρ k b = some j → k ≤ j ∧ ρ[j - k]? = some b
  | [],k,b,j,h => by cases h
  | x :: r,k,b,j,h => by
    simp only [loc] at h
    split at h
    · rename_i e; cases h; subst e; simp
    · obtain ⟨h1,h2⟩ := loc_some h
      refine ⟨by omega,?_⟩
      have : j - k = (j - (k + 1)) + 1 := by omega
      rw [this,List.getElem?_cons_succ]; exact h2
mutual
def mvC (ρ : List Nat) : C → C
  | .sv b o n => match loc ρ 0 b with | some j => .sv j o n | none => .top
  | .gv b n s => match loc ρ 0 b with | some j => .gv j n s | none => .top
  | .bp b o => match loc ρ 0 b with | some j => .bp j o | none => .top
  | .mp b => match loc ρ 0 b with | some j => .mp j | none => .top
  | .bt b t n => match loc ρ 0 b with | some j => .bt j t n | none => .top
  | .sl r n xs => .sl r n (mvCs ρ xs)
  | .kp xs => .kp (mvCs ρ xs)
  | .agg xs => .agg (mvCs ρ xs)
  | .tup xs => .tup (mvCs ρ xs)
  | .fn f xs => .fn f (mvCs ρ xs)
  | .top => .top
  | .val v => .val v
def mvCs (ρ : List Nat) : List C → List C
  | [] => []
  | x :: xs => mvC ρ x :: mvCs ρ xs
end
theorem mvCs_map (ρ : List Nat) : ∀ xs : List C,mvCs ρ xs = xs.map (mvC ρ)
  | [] => rfl
  | x :: xs => by simp [mvCs,mvCs_map ρ xs]
def mvH (ρ : List Nat) (h : Hp) : Hp := ρ.map fun b => ((h[b]?).getD none).map (mvCs ρ)
def mvG (ρ : List Nat) (G : Gh) : Gh where
  K := G.K
  μ := fun j => (ρ[j]?).bind G.μ
  T := fun g => match G.T g with
    | some p => if p.1 = 1 then (loc ρ 0 p.2.1).map (fun j => (1,j,p.2.2)) else some p
    | none => none
  σ := fun j => (ρ[j]?).bind G.σ
mutual
theorem mvC_rep {ρ : List Nat} : ∀ (c : C) (v : Value),Rep G c v → Rep (mvG ρ G) (mvC ρ c) v
  | .top,_,_ => by simp [mvC,Rep]
  | .val u,v,r => by simpa [mvC,Rep] using r
  | .sl r n xs,v,x => by
    simp only [mvC,Rep] at x ⊢
    obtain ⟨a,cap,h1,h2,h3,h4,h5⟩ := x
    refine ⟨a,cap,h1,h2,h3,h4,?_⟩
    rcases h5 with h5 | ⟨blk,off,ha,hk⟩
    · left; rw [h5]; rfl
    · exact .inr ⟨blk,off,ha,mvC_repK xs blk off hk⟩
  | .sv b off n,v,x => by
    simp only [mvC]
    cases hl : loc ρ 0 b with
    | none => simp [Rep]
    | some j =>
      have hj := (loc_some hl).2
      simp only [Rep] at x ⊢
      obtain ⟨a,cap,h1,h2,h3,h4⟩ := x
      exact ⟨a,cap,h1,h2,h3,fun hz => by obtain ⟨blk,q1,q2⟩ := h4 hz; exact ⟨blk,by simp only [mvG,Nat.sub_zero] at hj ⊢; rw [hj]; exact q1,q2⟩⟩
  | .gv b m s,v,x => by
    simp only [mvC]
    cases hl : loc ρ 0 b with
    | none => simp [Rep]
    | some j =>
      have hj := (loc_some hl).2
      simp only [Nat.sub_zero] at hj
      simp only [Rep] at x ⊢
      obtain ⟨a,cap,h1,h2,h3,h4⟩ := x
      refine ⟨a,cap,h1,h2,h3,?_⟩
      rcases h4 with h4 | ⟨blk,q1,q2,q3⟩
      · exact .inl h4
      · exact .inr ⟨blk,by simp only [mvG]; rw [hj]; exact q1,q2,by simp only [mvG]; rw [hj]; exact q3⟩
  | .bp b off,v,x => by
    simp only [mvC]
    cases hl : loc ρ 0 b with
    | none => simp [Rep]
    | some j =>
      have hj := (loc_some hl).2
      simp only [Nat.sub_zero] at hj
      simp only [Rep] at x ⊢
      obtain ⟨blk,h1,h2⟩ := x
      exact ⟨blk,by simp only [mvG]; rw [hj]; exact h1,h2⟩
  | .mp b,v,x => by
    simp only [mvC]
    cases hl : loc ρ 0 b with
    | none => simp [Rep]
    | some j =>
      have hj := (loc_some hl).2
      simp only [Nat.sub_zero] at hj
      simp only [Rep] at x ⊢
      obtain ⟨blk,h1,h2⟩ := x
      exact ⟨blk,by simp only [mvG]; rw [hj]; exact h1,h2⟩
  | .bt b t n,v,x => by
    simp only [mvC]
    cases hl : loc ρ 0 b with
    | none => simp [Rep]
    | some j =>
      have hj := (loc_some hl).2
      simp only [Nat.sub_zero] at hj
      simp only [Rep] at x ⊢
      obtain ⟨blk,h1,h2,h3⟩ := x
      exact ⟨blk,by simp only [mvG]; rw [hj]; exact h1,h2,by simp only [mvG]; rw [hj]; exact h3⟩
  | .kp xs,v,x => by
    simp only [mvC,Rep] at x ⊢
    obtain ⟨blk,off,h1,h2⟩ := x
    exact ⟨blk,off,h1,mvC_repK xs blk off h2⟩
  | .agg xs,v,x => by
    simp only [mvC,Rep] at x ⊢
    obtain ⟨vs,h1,h2,h3⟩ := x
    exact ⟨vs,h1,mvC_repL xs _ h2,h3⟩
  | .tup xs,v,x => by
    simp only [mvC,Rep] at x ⊢
    obtain ⟨vs,h1,h2⟩ := x
    exact ⟨vs,h1,mvC_repL xs _ h2⟩
  | .fn f xs,v,x => by
    simp only [mvC,Rep] at x ⊢
    obtain ⟨vs,h1,h2⟩ := x
    exact ⟨vs,h1,mvC_repL xs _ h2⟩
theorem mvC_repL {ρ : List Nat} : ∀ (xs : List C) (vs : List Value),RepL G xs vs → RepL (mvG ρ G) (mvCs ρ xs) vs
  | [],vs,r => by simpa [mvCs,RepL] using r
  | x :: xs,vs,r => by
    simp only [mvCs,RepL] at r ⊢
    obtain ⟨v,vs',h1,h2,h3⟩ := r
    exact ⟨v,vs',h1,mvC_rep x v h2,mvC_repL xs vs' h3⟩
theorem mvC_repK {ρ : List Nat} : ∀ (xs : List C) (blk off : Nat),RepK G blk off xs → RepK (mvG ρ G) blk off (mvCs ρ xs)
  | [],_,_,_ => by simp [mvCs,RepK]
  | x :: xs,blk,off,r => by
    simp only [mvCs,RepK] at r ⊢
    obtain ⟨⟨u,h1,h2,h3⟩,h4⟩ := r
    exact ⟨⟨u,h1,h2,mvC_rep x u h3⟩,mvC_repK xs blk (off + 1) h4⟩
end
theorem mvC_own {ρ : List Nat} {c : C} {s m : Nat} {xs : List C} (h : mvC ρ c = .sl (.own s) m xs) : ∃ ys,c = .sl (.own s) m ys := by
  cases c with
  | sl r k ys => simp only [mvC] at h; cases h; exact ⟨ys,rfl⟩
  | sv b o k => simp only [mvC] at h; split at h <;> cases h
  | gv b o k => simp only [mvC] at h; split at h <;> cases h
  | bp b o => simp only [mvC] at h; split at h <;> cases h
  | mp b => simp only [mvC] at h; split at h <;> cases h
  | bt b t n => simp only [mvC] at h; split at h <;> cases h
  | _ => simp only [mvC] at h; cases h
theorem mvH_at {ρ : List Nat} {j : Nat} {cells : List C} (hj : Hp.at (mvH ρ h) j = some cells) : ∃ b cells0,ρ[j]? = some b ∧ h.at b = some cells0 ∧ cells = mvCs ρ cells0 := by
  have h1 := Hp.at_some hj
  unfold mvH at h1
  rw [List.getElem?_map] at h1
  cases hb : ρ[j]? with
  | none => rw [hb] at h1; cases h1
  | some b =>
    rw [hb] at h1
    simp only [Option.map_some,Option.some.injEq] at h1
    cases hq : h[b]? with
    | none => rw [hq] at h1; cases h1
    | some o =>
      rw [hq] at h1
      cases o with
      | none => cases h1
      | some cells0 =>
        simp only [Option.getD_some,Option.map_some,Option.some.injEq] at h1
        refine ⟨b,cells0,rfl,?_,h1.symm⟩
        have hl := Hp.at_live hj
        unfold Hp.at
        rw [hq]
        subst h1
        show liveC (some cells0) = _
        cases cells0 with
        | nil => rfl
        | cons x l =>
          cases x with
          | tup xs => simp only [mvCs,mvC] at hl; cases hl
          | _ => rfl
theorem mvC_mrep {ρ : List Nat} : ∀ (l : List C) (es : List MapEntry),MRep G l es → MRep (mvG ρ G) (mvCs ρ l) es
  | [],_,r => by simpa [MRep,mvCs] using r
  | [_],_,r => by simp [MRep] at r
  | k :: v :: l,es,r => by
    simp only [MRep,mvCs] at r ⊢
    obtain ⟨e,es',h1,h2,h3,h4⟩ := r
    exact ⟨e,es',h1,mvC_rep k _ h2,mvC_rep v _ h3,mvC_mrep l es' h4⟩
theorem mvC_isVal {ρ : List Nat} {c : C} {u : Value} (h : mvC ρ c = .val u) : c = .val u := by
  cases c with
  | val v => simp only [mvC] at h; exact h
  | sv b o k => simp only [mvC] at h; split at h <;> cases h
  | gv b o k => simp only [mvC] at h; split at h <;> cases h
  | bp b o => simp only [mvC] at h; split at h <;> cases h
  | mp b => simp only [mvC] at h; split at h <;> cases h
  | bt b t n => simp only [mvC] at h; split at h <;> cases h
  | _ => simp only [mvC] at h; cases h
theorem mvC_isTup {ρ : List Nat} {c : C} {xs : List C} (h : mvC ρ c = .tup xs) : ∃ ys,c = .tup ys ∧ xs = mvCs ρ ys := by
  cases c with
  | tup ys => simp only [mvC] at h; cases h; exact ⟨ys,rfl,rfl⟩
  | sv b o k => simp only [mvC] at h; split at h <;> cases h
  | gv b o k => simp only [mvC] at h; split at h <;> cases h
  | bp b o => simp only [mvC] at h; split at h <;> cases h
  | mp b => simp only [mvC] at h; split at h <;> cases h
  | bt b t n => simp only [mvC] at h; split at h <;> cases h
  | _ => simp only [mvC] at h; cases h
theorem mpL_map {F : C → C} {Fs : List C → List C} (hs : ∀ xs,Fs xs = xs.map F) (hv : ∀ c u,F c = .val u → c = .val u) (ht : ∀ c xs,F c = .tup xs → ∃ ys,c = .tup ys ∧ xs = Fs ys) {cells l : List C} (h : mpL (some (Fs cells)) = some l) : ∃ l0,mpL (some cells) = some l0 ∧ l = Fs l0 := by
  cases cells with
  | nil => rw [hs] at h; cases h
  | cons c cs =>
    rw [hs,List.map_cons] at h
    cases hq : F c with
    | tup xs =>
      obtain ⟨ys,rfl,rfl⟩ := ht c xs hq
      rw [hq] at h
      cases ys with
      | nil => rw [hs] at h; cases h
      | cons y ys =>
        rw [hs,List.map_cons] at h
        cases hy : F y with
        | val u =>
          have := hv y u hy
          subst this
          rw [hy] at h
          cases u with
          | bool b =>
            cases b with
            | true => cases h; exact ⟨ys,rfl,(hs ys).symm⟩
            | false => cases h
          | _ => cases h
        | _ => rw [hy] at h; cases h
    | _ => rw [hq] at h; cases h
theorem mvH_mp {ρ : List Nat} {h : Hp} {j : Nat} {l : List C} (hj : Hp.mp (mvH ρ h) j = some l) : ∃ b l0,ρ[j]? = some b ∧ h.mp b = some l0 ∧ l = mvCs ρ l0 := by
  unfold Hp.mp mvH at hj
  rw [List.getElem?_map] at hj
  cases hb : ρ[j]? with
  | none => rw [hb] at hj; cases hj
  | some b =>
    rw [hb] at hj
    simp only [Option.map_some,Option.bind_some] at hj
    cases hq : h[b]? with
    | none => rw [hq] at hj; cases hj
    | some o =>
      rw [hq] at hj
      cases o with
      | none => cases hj
      | some cells0 =>
        obtain ⟨l0,h1,h2⟩ := mpL_map (Fs := mvCs ρ) (mvCs_map ρ) (fun _ _ => mvC_isVal) (fun _ _ => mvC_isTup) (cells := cells0) hj
        exact ⟨b,l0,rfl,by unfold Hp.mp; rw [hq]; exact h1,h2⟩
def okρ (n : Nat) (ρ : List Nat) : Prop := ρ.Nodup ∧ n ≤ ρ.length ∧ ∀ j,j < n → ρ[j]? = some j
theorem loc_of : ∀ {ρ : List Nat} {k j b : Nat},ρ.Nodup → ρ[j]? = some b → loc ρ k b = some (k + j)
  | x :: r,k,0,b,hn,h => by simp at h; subst h; simp [loc]
  | x :: r,k,j + 1,b,hn,h => by
    rw [List.getElem?_cons_succ] at h
    have hx : b ≠ x := fun e => by
      subst e
      exact (List.nodup_cons.1 hn).1 (List.mem_of_getElem? h)
    simp only [loc]
    rw [if_neg hx,loc_of (List.nodup_cons.1 hn).2 h]
    congr 1; omega
  | [],k,j,b,hn,h => by simp at h
theorem OwnRow.mv {ρ : List Nat} {p p' : Place} {v : Value} {s m : Nat} (O : OwnRow G w p v s m) (hp : (p.1 ≠ 1 ∧ p' = p) ∨ (p.1 = 1 ∧ ∃ j,loc ρ 0 p.2.1 = some j ∧ p' = (1,j,p.2.2))) : OwnRow (mvG ρ G) w p' v s m := by
  rcases O with O | ⟨g,cap,cur,e,a1,a2,a3,a4,a5,a6⟩
  · exact .inl O
  · refine .inr ⟨g,cap,cur,e,a1,?_,a3,a4,a5,fun b hb => ?_⟩
    · simp only [mvG,a2]
      rcases hp with ⟨h1,rfl⟩ | ⟨h1,j,h2,rfl⟩
      · rw [if_neg h1]
      · rw [if_pos h1,h2]; rfl
    · simp only [mvG] at hb
      cases hq : ρ[b]? with
      | none => rw [hq] at hb; cases hb
      | some q => rw [hq] at hb; exact a6 q hb
theorem WorldOK.mv {ρ : List Nat} (H : WorldOK G h w) (hρ : ρ.Nodup) : WorldOK (mvG ρ G) (mvH ρ h) w := by
  have hμ : ∀ {j blk},(mvG ρ G).μ j = some blk → ∃ b,ρ[j]? = some b ∧ G.μ b = some blk := fun {j blk} x => by
    simp only [mvG] at x
    cases hq : ρ[j]? with
    | none => rw [hq] at x; cases x
    | some q => rw [hq] at x; exact ⟨q,rfl,x⟩
  refine ⟨H.known,fun j cells hj => ?_,fun j blk hm => ?_,fun j j' c c' blk hj hj' hm hm' => ?_,fun j blk hm => ?_,fun g p hg => ?_,fun j cells off s m xs blk v hj hc hm hv => ?_,fun j z hz => ?_,fun j l hj => ?_,fun j j' l l' blk x x' y y' => ?_⟩
  · obtain ⟨b,cells0,h1,h2,rfl⟩ := mvH_at hj
    rcases H.box b cells0 h2 with ⟨hE,hE2⟩ | ⟨blk,cs,e,q1,q2,q3,q4,q5⟩
    · exact .inl ⟨by rw [hE]; rfl,by simp only [mvG,h1]; exact hE2⟩
    · have hl : (mvCs ρ cells0).length = cells0.length := by rw [mvCs_map]; simp
      exact .inr ⟨blk,cs,e,by simp only [mvG,h1]; exact q1,q2,by rw [hl]; exact q3,by rw [hl]; exact mvC_repL _ _ q4,q5⟩
  · obtain ⟨b,h1,h2⟩ := hμ hm
    obtain ⟨⟨c,hc⟩,hl⟩ := H.dom b blk h2
    refine ⟨⟨mvCs ρ c,?_⟩,hl⟩
    unfold mvH
    rw [List.getElem?_map,h1]
    simp [hc]
  · obtain ⟨b,h1,h2⟩ := hμ hm
    obtain ⟨b',h1',h2'⟩ := hμ hm'
    obtain ⟨q,cells0,g1,g2,_⟩ := mvH_at hj
    obtain ⟨q',cells0',g1',g2',_⟩ := mvH_at hj'
    rw [h1] at g1; cases g1
    rw [h1'] at g1'; cases g1'
    have e := H.inj b b' _ _ blk g2 g2' h2 h2'
    subst e
    have l1 := loc_of (k := 0) hρ h1
    have l2 := loc_of (k := 0) hρ h1'
    rw [l1] at l2
    simpa using l2
  · obtain ⟨b,h1,h2⟩ := hμ hm
    obtain ⟨s1,s2⟩ := H.sep b blk h2
    exact ⟨s1,by simp only [mvG,s2]⟩
  · cases hq : G.T g with
    | none => simp only [mvG,hq] at hg; cases hg
    | some q => exact H.tlt g q hq
  · obtain ⟨b,cells0,h1,h2,rfl⟩ := mvH_at hj
    obtain ⟨b',h1',h2'⟩ := hμ hm
    rw [h1] at h1'; cases h1'
    rw [mvCs_map,List.getElem?_map] at hc
    cases hq : cells0[off]? with
    | none => rw [hq] at hc; cases hc
    | some y =>
      rw [hq] at hc
      simp only [Option.map_some,Option.some.injEq] at hc
      obtain ⟨ys,rfl⟩ := mvC_own hc
      have O := H.own b cells0 off s m ys blk v h2 hq h2' hv
      have l1 := loc_of (k := 0) hρ h1
      exact O.mv (.inr ⟨rfl,j,by simpa using l1,rfl⟩)
  · simp only [mvG] at hz
    cases hq : ρ[j]? with
    | none => rw [hq] at hz; cases hz
    | some b =>
      rw [hq] at hz
      obtain ⟨blk,cs,e,fr,q1,q2,q3⟩ := H.siz b z hz
      exact ⟨blk,cs,e,fr,by simp only [mvG,hq]; exact q1,q2,q3⟩
  · obtain ⟨b,l0,h1,h2,rfl⟩ := mvH_mp hj
    obtain ⟨blk,es,clk,q1,q2,q3⟩ := H.mpo b l0 h2
    exact ⟨blk,es,clk,by simp only [mvG,h1]; exact q1,q2,mvC_mrep l0 _ q3⟩
  · obtain ⟨b,l0,h1,h2,rfl⟩ := mvH_mp x
    obtain ⟨b',l0',h1',h2',rfl⟩ := mvH_mp x'
    obtain ⟨q,g1,g2⟩ := hμ y
    obtain ⟨q',g1',g2'⟩ := hμ y'
    rw [h1] at g1; cases g1
    rw [h1'] at g1'; cases g1'
    have e := H.mpi b b' _ _ blk h2 h2' g2 g2'
    subst e
    have l1 := loc_of (k := 0) hρ h1
    have l2 := loc_of (k := 0) hρ h1'
    rw [l1] at l2
    simpa using l2
theorem frmN_mv {ρ : List Nat} (hρ : okρ n ρ) : FrmN n G w (mvG ρ G) w :=
  ⟨rfl,rfl,rfl,Nat.le_refl _,fun _ _ _ x => x,fun b k hb x => by simp only [mvG]; rw [hρ.2.2 b hb]; exact x,fun b k hb x => by simp only [mvG]; rw [hρ.2.2 b hb]; exact x,
    fun g _ ht hm => ⟨rfl,by simp only [mvG,ht],fun j hj => by
      simp only [mvG] at hj
      cases hq : ρ[j]? with
      | none => rw [hq] at hj; cases hj
      | some q => rw [hq] at hj; exact hm q hj,fun _ => rfl⟩⟩
theorem mvC_noRef {ρ : List Nat} {c : C} {v : Value} (hc : noRef 0 c = true) (h : Rep G c v) : Rep (mvG ρ G) c v := by
  have h1 := noRef_rep c v hc h
  have le : (cutμ G 0).Le (mvG ρ G) := ⟨fun _ _ _ x => x,fun b k x => by simp [cutμ] at x,fun b k x => by simp [cutμ] at x⟩
  exact h1.mono le
theorem Sim.mv (hcx : CxOK cx) {a : Act} {ρ : List Nat} (hρ : ρ.Nodup) (H : Sim cx G w st a) : Sim cx (mvG ρ G) w ⟨fun t => mvC ρ (st.env t),mvH ρ st.h⟩ a :=
  ⟨H.defers,H.size,H.pre.ok.mv hρ,⟨fun t => mvC_rep _ _ (H.pre.env.1 t),fun t s m xs e => by
    obtain ⟨ys,hy⟩ := mvC_own e
    exact (H.pre.env.2 t s m ys hy).mv (.inl ⟨by simp,rfl⟩)⟩,fun g => mvC_noRef (hcx.glo g) (H.pre.glob g)⟩
theorem Tr.mv (hcx : CxOK cx) {c : Code} (ρ : List Nat) (hρ : okρ n ρ) (H : Tr cx n c ⟨fun t => mvC ρ (st.env t),mvH ρ st.h⟩ Q) : Tr cx n c st Q := fun G w a S R hR =>
  H (mvG ρ G) w a (S.mv hcx hρ.1) R fun x s G' w' a' q S' F => hR x s G' w' a' q S' ((frmN_mv hρ).trans F)
def MvQ (n : Nat) (P : St → Prop) (s : St) : Prop := ∃ ρ : List Nat,okρ n ρ ∧ P ⟨fun t => mvC ρ (s.env t),mvH ρ s.h⟩
theorem Tr.loopM {α : Type} (hcx : CxOK cx) (I : α → List (Nat × C)) (H : α → Hp) (ok : α → Prop) (μ : α → Nat) {c : Code} (a : α) (h0 : ok a) (hl : Le st.env (I a)) (hh : st.h = H a)
    (hb : ∀ a,ok a → Tr cx n c ⟨A (I a),H a⟩ (thenQ (MvQ n (At I H fun a' => ok a' ∧ μ a' < μ a)) Q)) : Tr cx n (.loop c) st Q := by
  refine Tr.loop (fun m s => ∃ ρ,okρ n ρ ∧ ∃ a,μ a = m ∧ ok a ∧ Le (fun t => mvC ρ (s.env t)) (I a) ∧ mvH ρ s.h = H a ∨ (μ a = m ∧ ok a ∧ Le s.env (I a) ∧ s.h = H a)) (μ a) ⟨List.range n,⟨List.nodup_range,by simp,fun j hj => by simp [hj]⟩,a,.inr ⟨rfl,h0,hl,hh⟩⟩ ?_
  rintro m s ⟨ρ,hρ,a,⟨rfl,h1,h2,h3⟩ | ⟨rfl,h1,h2,h3⟩⟩
  · refine Tr.mv hcx ρ hρ (Tr.live _ h2 ?_)
    rw [h3]
    refine (hb a h1).mono fun e s q => ?_
    cases e with
    | normal =>
      obtain ⟨ρ',hρ',a',⟨q1,q2⟩,q3,q4⟩ := q
      exact ⟨μ a',q2,ρ',hρ',a',.inl ⟨rfl,q1,q3,q4⟩⟩
    | exit id => exact q
    | ret => exact q
  · refine Tr.live _ h2 ?_
    rw [h3]
    refine (hb a h1).mono fun e s q => ?_
    cases e with
    | normal =>
      obtain ⟨ρ',hρ',a',⟨q1,q2⟩,q3,q4⟩ := q
      exact ⟨μ a',q2,ρ',hρ',a',.inl ⟨rfl,q1,q3,q4⟩⟩
    | exit id => exact q
    | ret => exact q
end
end Go.Sx
