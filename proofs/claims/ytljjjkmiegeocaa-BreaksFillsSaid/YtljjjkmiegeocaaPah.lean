/-
  Typed shadow values: words, bytes, strings, lists of cells; what the operations do to them. And what follows.
-/
import Derived.ChangeSame
import Derived.ChangeVars
import Derived.ChangeStays
import Derived.ChangeOld
import Derived.ChangeArms
import Derived.OpenShut
import Derived.RowKit
import Derived.JoinedOf
import Derived.Handed
import Derived.LaidLaws
import Derived.LaidMore
import Derived.KernelRfl
import Derived.LaidHandle
import Derived.MakeChecks
import Derived.Stop.Joined
import Derived.Lib.SlBytesConst
import Derived.Test.YtljjjkmiegeocaaPag
set_option linter.unusedSimpArgs false
set_option linter.unusedVariables false
namespace Go.Sx
open Go.RowKit
def w32 (x : BitVec 32) : Value := .int .u32 x.toNat
def w8 (x : UInt8) : Value := .int .u8 x.toNat
def nI (n : Nat) : Value := .int .i64 n
def nU (n : Nat) : Value := .int .u64 n
def str (l : List UInt8) : Value := .string ⟨l.toArray⟩
theorem str_inj {l l' : List UInt8} : str l = str l' ↔ l = l' := by
  constructor
  · intro h
    simp only [str, Value.string.injEq, ByteArray.mk.injEq] at h
    simpa using congrArg Array.toList h
  · rintro rfl; rfl
theorem w8_inj {a b : UInt8} : w8 a = w8 b ↔ a = b := by
  simp only [w8, Value.int.injEq, true_and]
  constructor
  · intro h; exact UInt8.toNat_inj.1 (by omega)
  · rintro rfl; rfl
theorem w32_inj {a b : BitVec 32} : w32 a = w32 b ↔ a = b := by
  simp only [w32, Value.int.injEq, true_and]
  constructor
  · intro h; exact BitVec.eq_of_toNat_eq (by omega)
  · rintro rfl; rfl
theorem nI_inj {a b : Nat} : nI a = nI b ↔ a = b := by simp only [nI, Value.int.injEq, true_and]; omega
theorem nU_inj {a b : Nat} : nU a = nU b ↔ a = b := by simp only [nU, Value.int.injEq, true_and]; omega
/-- Cells of a list. -/
def cl {α : Type} (f : α → List C) (l : List α) : List C := l.flatMap f
/-- A slice of a list. -/
def sl {α : Type} (f : α → List C) (r : Rt) (l : List α) : C := .sl r l.length (cl f l)
class Cel {α : Type} (f : α → List C) (s : outParam Nat) : Prop where
  len : ∀ a, (f a).length = s
  clean : ∀ a, (f a).map C.noR = f a
  pos : 0 < s
  live : ∀ a r, liveC (some (f a ++ r)) = some (f a ++ r)
class Sca {α : Type} (f : α → List C) (g : outParam (α → C)) : Prop where
  one : ∀ a, f a = [g a]
  clean : ∀ a, (g a).noR = g a
  cells : ∀ a, (g a).cells? = some [g a]
  live : ∀ a r, liveC (some (g a :: r)) = some (g a :: r)
def bC (b : UInt8) : List C := [.val (w8 b)]
def wC (b : BitVec 32) : List C := [.val (w32 b)]
def sC (b : List UInt8) : List C := [.val (str b)]
def iC (b : Int) : List C := [.val (.int .i64 b)]
def nC (b : Nat) : List C := [.val (nI b)]
def oC (b : Bool) : List C := [.val (.bool b)]
instance : Sca bC (fun b => .val (w8 b)) := ⟨fun _ => rfl, fun _ => rfl, fun _ => rfl, fun _ _ => rfl⟩
instance : Sca wC (fun b => .val (w32 b)) := ⟨fun _ => rfl, fun _ => rfl, fun _ => rfl, fun _ _ => rfl⟩
instance : Sca sC (fun b => .val (str b)) := ⟨fun _ => rfl, fun _ => rfl, fun _ => rfl, fun _ _ => rfl⟩
instance : Sca iC (fun b => .val (.int .i64 b)) := ⟨fun _ => rfl, fun _ => rfl, fun _ => rfl, fun _ _ => rfl⟩
instance : Sca nC (fun b => .val (nI b)) := ⟨fun _ => rfl, fun _ => rfl, fun _ => rfl, fun _ _ => rfl⟩
instance : Sca oC (fun b => .val (.bool b)) := ⟨fun _ => rfl, fun _ => rfl, fun _ => rfl, fun _ _ => rfl⟩
instance {α : Type} {f : α → List C} {g : α → C} [h : Sca f g] : Cel f 1 := ⟨fun a => by rw [h.one]; rfl, fun a => by rw [h.one]; simp [h.clean], by decide, fun a r => by rw [h.one]; exact h.live a r⟩
section
variable {α : Type} {f : α → List C} {s : Nat} [hf : Cel f s]
omit hf in
theorem cl_nil : cl f [] = [] := rfl
omit hf in
theorem cl_cons (a : α) (l : List α) : cl f (a :: l) = f a ++ cl f l := rfl
omit hf in
theorem cl_app (l l' : List α) : cl f (l ++ l') = cl f l ++ cl f l' := by simp [cl]
theorem cl_len : ∀ l : List α, (cl f l).length = l.length * s
  | [] => by simp [cl]
  | a :: l => by rw [cl_cons, List.length_append, hf.len, cl_len l, List.length_cons, Nat.add_mul, Nat.one_mul, Nat.add_comm]
include hf in
theorem cl_noR : ∀ l : List α, (cl f l).map C.noR = cl f l
  | [] => rfl
  | a :: l => by rw [cl_cons, List.map_append, hf.clean, cl_noR l]
theorem cl_drop : ∀ (l : List α) (k : Nat), (cl f l).drop (k * s) = cl f (l.drop k)
  | l, 0 => by simp
  | [], k + 1 => by simp [cl]
  | a :: l, k + 1 => by
    have e : (k + 1) * s = s + k * s := by rw [Nat.add_mul, Nat.one_mul, Nat.add_comm]
    have h : ((f a) ++ cl f l).drop s = cl f l := by
      have := List.drop_left (l₁ := f a) (l₂ := cl f l)
      rwa [hf.len] at this
    rw [cl_cons, e, ← List.drop_drop, h, List.drop_succ_cons]
    exact cl_drop l k
theorem cl_take : ∀ (l : List α) (k : Nat), (cl f l).take (k * s) = cl f (l.take k)
  | l, 0 => by simp [cl]
  | [], k + 1 => by simp [cl]
  | a :: l, k + 1 => by
    have e : (k + 1) * s = s + k * s := by rw [Nat.add_mul, Nat.one_mul, Nat.add_comm]
    rw [cl_cons, e, List.take_append, hf.len, List.take_of_length_le (by rw [hf.len]; omega), List.take_succ_cons, cl_cons, Nat.add_sub_cancel_left, cl_take l k]
theorem cl_set (l : List α) (k : Nat) (a : α) (h : k < l.length) : splice (cl f l) (k * s) (f a) = cl f (l.set k a) := by
  unfold splice
  rw [cl_take, hf.len, ← Nat.succ_mul, cl_drop, List.set_eq_take_append_cons_drop, if_pos h, cl_app, cl_cons, List.append_assoc]
theorem cl_at (l : List α) (k : Nat) (a : α) (h : l[k]? = some a) : ((cl f l).drop (k * s)).take s = f a := by
  rw [cl_drop]
  obtain ⟨hk, rfl⟩ := List.getElem?_eq_some_iff.1 h
  rw [List.drop_eq_getElem_cons hk, cl_cons, List.take_append, hf.len, Nat.sub_self, List.take_zero, List.append_nil, List.take_of_length_le (by rw [hf.len]; exact Nat.le_refl _)]
end
section
variable {α : Type} [Inhabited α] {f : α → List C} {g : α → C} [hf : Sca f g]
theorem cl_get (l : List α) (k : Nat) (h : k < l.length) : (cl f l)[k]? = some (g (l.getD k default)) := by
  have hq : l[k]? = some (l.getD k default) := by simp [List.getD, List.getElem?_eq_getElem h]
  have := cl_at (f := f) l k _ hq
  rw [Nat.mul_one, hf.one] at this
  have h2 := congrArg (fun z => z[0]?) this
  simpa [List.getElem?_take, List.getElem?_drop] using h2
end
/-! Boxes. -/
theorem at_cons0 (x : Option (List C)) (h : Hp) : Hp.at (x :: h) 0 = liveC x := rfl
theorem live_val (v : Value) (r : List C) : liveC (some (.val v :: r)) = some (.val v :: r) := rfl
theorem live_tsl {α : Type} (f : α → List C) (q : Rt) (l : List α) (r : List C) : liveC (some (sl f q l :: r)) = some (sl f q l :: r) := rfl
theorem live_cl {α : Type} (f : α → List C) {s : Nat} [hf : Cel f s] (l : List α) : liveC (some (cl f l)) = some (cl f l) := by
  cases l with
  | nil => rfl
  | cons a l => exact hf.live a _
theorem at_consS (x : Option (List C)) (h : Hp) (n : Nat) : Hp.at (x :: h) (n + 1) = Hp.at h n := by simp [Hp.at]
/-- One cell read. -/
def rdc (cells : List C) (o : Nat) : Option C := (cells[o]?).map C.noR
/-- Cells read. -/
def rda (cells : List C) (o n : Nat) : Option C := if o + n ≤ cells.length then some (.agg (((cells.drop o).take n).map C.noR)) else none
/-- Cells written. -/
def wrc (cells : List C) (o : Nat) (cs : List C) : Option (List C × C) := if o + cs.length ≤ cells.length then some (splice cells o cs, .val undef) else none
/-- A slice written. -/
def wrs (cells : List C) (o : Nat) (c : C) : Option (List C × C) := if o < cells.length then some (cells.set o c, .val undef) else none
theorem rdc_cons0 (c : C) (l : List C) : rdc (c :: l) 0 = some c.noR := rfl
theorem rdc_consS (c : C) (l : List C) (n : Nat) : rdc (c :: l) (n + 1) = rdc l n := by simp [rdc]
theorem rdc_drop (l : List C) (k n : Nat) : rdc (l.drop k) n = rdc l (k + n) := by simp [rdc, List.getElem?_drop]
theorem rdc_cl {α : Type} [Inhabited α] {f : α → List C} {g : α → C} [hf : Sca f g] (l : List α) (k : Nat) (h : k < l.length) : rdc (cl f l) k = some (g (l.getD k default)) := by
  simp only [rdc, cl_get (f := f) l k h, Option.map_some, hf.clean]
theorem wrc_cl {α : Type} {f : α → List C} {g : α → C} [hf : Sca f g] (l : List α) (k : Nat) (a : α) (h : k < l.length) : wrc (cl f l) k [g a] = some (cl f (l.set k a), .val undef) := by
  have := cl_set (f := f) l k a h
  rw [Nat.mul_one, hf.one] at this
  simp only [wrc]
  rw [if_pos (by rw [cl_len (f := f)]; simp; omega), this]
end Go.Sx
namespace Go.Sx
open Go.RowKit
theorem wrap_i64 (n : Int) (h : -9223372036854775808 ≤ n) (h2 : n < 9223372036854775808) : IntKind.wrap .i64 n = n := by
  have e : IntKind.wrap .i64 n = if n % 18446744073709551616 ≥ 9223372036854775808 then n % 18446744073709551616 - 18446744073709551616 else n % 18446744073709551616 := by
    simp [IntKind.wrap, IntKind.bits, IntKind.signed]
  rw [e]
  split <;> omega
theorem lit_nIo (n : Nat) : Value.int .i64 (no_index (OfNat.ofNat n : Int)) = nI n := rfl
section
variable (P : Program) (t : TypeId)
theorem bin_int (op : BinOp) (k k' : IntKind) (a b : Int) : binPlan P op t (.val (.int k a)) (.val (.int k' b)) = (sbin op (.int k a) (.int k' b)).map fun v => vp (.val v) := by
  unfold binPlan; cases td P t <;> rfl
/- words -/
end
end Go.Sx
namespace Go.Sx
open Go.RowKit
section
variable (P : Program) (t : TypeId)
/- lengths and indices -/
theorem n_add (x y : Nat) (h : x + y < 9223372036854775808) : binPlan P .add t (.val (nI x)) (.val (nI y)) = some (vp (.val (nI (x + y)))) := by
  simp only [nI, bin_int, sbin, ne_eq, not_true_eq_false, if_false, Option.map_some]
  rw [wrap_i64 _ (by omega) (by omega)]; simp
theorem n_sub (x y : Nat) (h : y ≤ x ∧ x < 9223372036854775808) : binPlan P .sub t (.val (nI x)) (.val (nI y)) = some (vp (.val (nI (x - y)))) := by
  simp only [nI, bin_int, sbin, ne_eq, not_true_eq_false, if_false, Option.map_some]
  rw [wrap_i64 _ (by omega) (by omega)]; congr 4; omega
theorem n_rem (x y : Nat) (h : 0 < y) : binPlan P .rem t (.val (nI x)) (.val (nI y)) = some (vp (.val (nI (x % y)))) := by
  have hy : (y : Int) ≠ 0 := by omega
  simp only [nI, bin_int, sbin, ne_eq, not_true_eq_false, if_false, Option.map_some, hy]
  rfl
theorem n_eql (x y : Nat) : binPlan P .eql t (.val (nI x)) (.val (nI y)) = some (vp (.val (.bool (decide (x = y))))) := by
  simp only [nI, bin_int, sbin, ne_eq, not_true_eq_false, if_false, Option.map_some]
  congr 4; rw [Bool.eq_iff_iff]; simp; omega
theorem n_neq (x y : Nat) : binPlan P .neq t (.val (nI x)) (.val (nI y)) = some (vp (.val (.bool (decide (x ≠ y))))) := by
  simp only [nI, bin_int, sbin, ne_eq, not_true_eq_false, if_false, Option.map_some]
  congr 4; rw [Bool.eq_iff_iff]; simp; omega
theorem n_lss (x y : Nat) : binPlan P .lss t (.val (nI x)) (.val (nI y)) = some (vp (.val (.bool (decide (x < y))))) := by
  simp only [nI, bin_int, sbin, ne_eq, not_true_eq_false, if_false, Option.map_some]
  congr 4; rw [Bool.eq_iff_iff]; simp
theorem n_leq (x y : Nat) : binPlan P .leq t (.val (nI x)) (.val (nI y)) = some (vp (.val (.bool (decide (x ≤ y))))) := by
  simp only [nI, bin_int, sbin, ne_eq, not_true_eq_false, if_false, Option.map_some]
  congr 4; rw [Bool.eq_iff_iff]; simp
theorem n_gtr (x y : Nat) : binPlan P .gtr t (.val (nI x)) (.val (nI y)) = some (vp (.val (.bool (decide (y < x))))) := by
  simp only [nI, bin_int, sbin, ne_eq, not_true_eq_false, if_false, Option.map_some]
  congr 4; rw [Bool.eq_iff_iff]; simp
theorem n_geq (x y : Nat) : binPlan P .geq t (.val (nI x)) (.val (nI y)) = some (vp (.val (.bool (decide (y ≤ x))))) := by
  simp only [nI, bin_int, sbin, ne_eq, not_true_eq_false, if_false, Option.map_some]
  congr 4; rw [Bool.eq_iff_iff]; simp
/- uint64 -/
/- strings -/
end
end Go.Sx
namespace Go.Sx
open Go.RowKit
/-- An entry of a list. -/
def gt {α : Type} [Inhabited α] (l : List α) (k : Nat) : α := l.getD k default
/-! Conversions: by the two types' rows. -/
def cvP (P : Program) (s d : Option TD) (c : C) : Option Plan := match s, d with
  | some ds, some dd =>
    match ds.u, dd.u, c with
    | _, .int k, .val (.int _ n) => some (.pure (.val (.int k (k.wrap n))))
    | _, .string, .val (.string s) => some (.pure (.val (.string s)))
    | .string, .slice e, .val (.string s) => match td P e with
      | some de => (match de.u with
        | .int .u8 => if s.size ≤ 140737488355328 then some (.pure (.sl .no s.size (s.data.toList.map byteC))) else none
        | _ => none)
      | none => none
    | .slice e, .string, c => match td P e with
      | some de => (match de.u with
        | .int .u8 => (match c with
          | .sv b off n => some (.rd b fun cells => if off + n ≤ cells.length then (u8s? ((cells.drop off).take n)).map fun ns => .val (.string (strOf ns)) else none)
          | c => match c.sl? with
            | some (n, xs) => if xs.length = n then (u8s? xs).map fun ns => .pure (.val (.string (strOf ns))) else none
            | none => none)
        | _ => none)
      | none => none
    | _, _, _ => none
  | _, _ => none
section
variable (P : Program) (u1 : TypeDesc) (a1 b1 a2 b2 a3 b3 : Nat) (z1 z2 z3 : List Value)
/-! Reading and writing. -/
def ldB (own : Bool) (t : Option TD) (b o : Nat) : Option Plan := match t with
  | none => none
  | some d => if own ∧ d.isAgg = false then some (.xr b o) else some (.rd b fun cells => getAt d cells o)
theorem load_bp (own : Bool) (t : TypeId) (b o : Nat) : loadPlan P own t (.bp b o) = ldB own (td P t) b o := by
  unfold loadPlan ldB; cases td P t <;> rfl
theorem ldB_int (k : IntKind) (b o : Nat) : ldB false (some ⟨.int k, a1, b1, z1⟩) b o = some (.rd b fun cells => rdc cells o) := rfl
theorem ldB_sl (e : TypeId) (b o : Nat) : ldB false (some ⟨.slice e, a1, b1, z1⟩) b o = some (.rd b fun cells => rdc cells o) := rfl
theorem ldB_slo (e : TypeId) (b o : Nat) : ldB true (some ⟨.slice e, a1, b1, z1⟩) b o = some (.xr b o) := rfl
theorem ldB_struct (own : Bool) (fs : Array Field) (b o : Nat) : ldB own (some ⟨.struct fs, a1, b1, z1⟩) b o = some (.rd b fun cells => rda cells o a1) := by cases own <;> rfl
def ldK (t : Option TD) (xs : List C) : Option Plan := match t with
  | none => none
  | some d => (getAt d xs 0).map vp
theorem load_kp (own : Bool) (t : TypeId) (xs : List C) : loadPlan P own t (.kp xs) = ldK (td P t) xs := by
  unfold loadPlan ldK; cases td P t <;> rfl
theorem ldK_int (k : IntKind) (xs : List C) : ldK (some ⟨.int k, a1, b1, z1⟩) xs = (rdc xs 0).map vp := rfl
theorem ldK_sl (e : TypeId) (xs : List C) : ldK (some ⟨.slice e, a1, b1, z1⟩) xs = (rdc xs 0).map vp := rfl
def stB (t : Option TD) (b o : Nat) (cs : Option (List C)) : Option Plan := match t with
  | none => none
  | some d => match cs with
    | some cs => if cs.length = d.size then some (.wr b (fun cells => wrc cells o cs) none) else none
    | none => none
theorem store_val (t : TypeId) (b o : Nat) (v : Value) (k : Option Nat) : storePlan P t (.bp b o) (.val v) k = stB (td P t) b o (C.val v).cells? := by
  unfold storePlan stB; cases td P t with
  | none => rfl
  | some d => simp only []; cases (C.val v).cells? <;> rfl
theorem store_agg (t : TypeId) (b o : Nat) (xs : List C) (k : Option Nat) : storePlan P t (.bp b o) (.agg xs) k = stB (td P t) b o (some (xs.map C.noR)) := by
  unfold storePlan stB; cases td P t <;> rfl
def stS (t : Option TD) (b o : Nat) (c : C) (k : Option Nat) : Option Plan := match t with
  | none => none
  | some d => if d.size = 1 then some (.wr b (fun cells => wrs cells o c) k) else none
theorem store_sl (t : TypeId) (b o : Nat) (r : Rt) (n : Nat) (xs : List C) (k : Option Nat) : storePlan P t (.bp b o) (.sl r n xs) k = stS (td P t) b o (.sl r n xs) k := by
  unfold storePlan stS; cases td P t <;> rfl
theorem stS_one (u : TypeDesc) (y : Nat) (z : List Value) (b o : Nat) (c : C) (k : Option Nat) : stS (some ⟨u, 1, y, z⟩) b o c k = some (.wr b (fun cells => wrs cells o c) k) := rfl
theorem stB_many (u : TypeDesc) (s y : Nat) (z : List Value) (b o : Nat) (cs : List C) (h : cs.length = s) : stB (some ⟨u, s, y, z⟩) b o (some cs) = some (.wr b (fun cells => wrc cells o cs) none) := if_pos h
theorem cells_nI (x : Nat) : (C.val (nI x)).cells? = some [.val (nI x)] := rfl
theorem cells_int (k : IntKind) (x : Int) : (C.val (.int k x)).cells? = some [.val (.int k x)] := rfl
theorem cells_agg (xs : List C) : (C.agg xs).cells? = some (xs.map C.noR) := rfl
/-! Indices. -/
theorem idx_nI (i n : Nat) (h : i < n) : idx? (.val (nI i)) n = some i := by
  simp only [idx?, nI, C.int?]; rw [if_pos (by omega)]; simp
theorem bound_nI (i d m : Nat) (h : i ≤ m) : bound? (some (.val (nI i))) d m = some i := by
  simp only [bound?, nI, C.int?]; rw [if_pos (by omega)]; simp
theorem bound_none (d m : Nat) : bound? none d m = some d := rfl
def ixS (de : Option TD) (k : Option Nat) (f : Nat → Nat → Option Plan) : Option Plan := match de, k with
  | some de, some k => f de.size k
  | _, _ => none
theorem ixS_some (u : TypeDesc) (s y : Nat) (z : List Value) (k : Nat) (f : Nat → Nat → Option Plan) : ixS (some ⟨u, s, y, z⟩) (some k) f = f s k := rfl
def ixaP (P : Program) (t : Option TD) (c i : C) : Option Plan := match t with
  | none => none
  | some d =>
    match d.u, c with
    | .array n e, .bp b off => ixS (td P e) (idx? i n) fun s k => some (vp (.bp b (off + k * s)))
    | .array n e, .kp xs => ixS (td P e) (idx? i n) fun s k => if n * s ≤ xs.length then some (vp (.kp (xs.drop (k * s)))) else none
    | .slice e, .sv b off n => ixS (td P e) (idx? i n) fun s k => some (vp (.bp b (off + k * s)))
    | .slice e, .sl _ n xs => ixS (td P e) (idx? i n) fun s k => if xs.length = n * s ∧ xs ≠ [] then some (vp (.kp (xs.drop (k * s)))) else none
    | _, _ => none
theorem ixa_td (t : TypeId) (c i : C) : indexAddrPlan P t c i = ixaP P (td P t) c i := by
  unfold indexAddrPlan ixaP
  cases td P t with
  | none => rfl
  | some d =>
    simp only []
    cases d.u <;> cases c <;> first | rfl | (rename_i e _ _ _; cases td P e <;> first | rfl | (cases idx? i _ <;> rfl))
theorem ixa_sv (e : TypeId) (b off n : Nat) (i : C) : ixaP P (some ⟨.slice e, a1, b1, z1⟩) (.sv b off n) i = ixS (td P e) (idx? i n) fun s k => some (vp (.bp b (off + k * s))) := rfl
theorem ixa_sl {α : Type} (f : α → List C) (e : TypeId) (r : Rt) (l : List α) (i : C) : ixaP P (some ⟨.slice e, a1, b1, z1⟩) (sl f r l) i = ixS (td P e) (idx? i l.length) fun s k => if (cl f l).length = l.length * s ∧ cl f l ≠ [] then some (vp (.kp ((cl f l).drop (k * s)))) else none := rfl
end
end Go.Sx
namespace Go.Sx
open Go.RowKit
section
variable {α : Type} (f : α → List C)
theorem noR_slno (l : List α) : (sl f .no l).noR = sl f .no l := rfl
theorem noR_slfull (l : List α) : (sl f .full l).noR = sl f .full l := rfl
theorem noR_slown (s : Nat) (l : List α) : (sl f (.own s) l).noR = sl f .no l := rfl
theorem share_slno (l : List α) : (sl f .no l).share = sl f .no l := rfl
theorem share_slfull (l : List α) : (sl f .full l).share = sl f .no l := rfl
end
theorem share_nI (x : Nat) : (C.val (nI x)).share = .val (nI x) := rfl
section
variable (P : Program) (u1 : TypeDesc) (a1 b1 a2 b2 a3 b3 : Nat) (z1 z2 z3 : List Value)
/-! len -/
def lenP (t : Option TD) (x : C) : Option Plan := match t with
  | none => none
  | some d =>
    match d.u, x with
    | .string, .val (.string s) => some (.pure (.val (.int .i64 s.size)))
    | .array n _, _ => some (.pure (.val (.int .i64 n)))
    | .slice _, .sv _ _ n => some (.pure (.val (.int .i64 n)))
    | .slice _, x => x.sl?.map fun r => .pure (.val (.int .i64 r.1))
    | _, _ => none
theorem len_td (t : TypeId) (x : C) : lenPlan P t x = lenP (td P t) x := rfl
theorem len_sl {α : Type} (f : α → List C) (e : TypeId) (r : Rt) (l : List α) : lenP (some ⟨.slice e, a1, b1, z1⟩) (sl f r l) = some (vp (.val (nI l.length))) := rfl
/-! index -/
def inxP (P : Program) (t : Option TD) (c i : C) : Option Plan := match t with
  | none => none
  | some d =>
    match d.u, c with
    | .string, .val (.string s) => match idx? i s.size with
      | some k => (s.data[k]?).map fun b => .pure (byteC b)
      | none => none
    | .array n e, c => match td P e, idx? i n, c.agg? with
      | some de, some k, some xs => (getAt de xs (k * de.size)).map .pure
      | _, _, _ => none
    | _, _ => none
/-! fields -/
def fldP (P : Program) (t : Option TD) (c : C) (f : Nat) : Option Plan := match t with
  | none => none
  | some d =>
    match d.u with
    | .struct fields => match fields[f]?, c.agg? with
      | some fd, some xs => (match td P fd.type with
        | some de => (getAt de xs fd.offset).map .pure
        | none => none)
      | _, _ => none
    | _ => none
def faP (P : Program) (t : Option TD) (c : C) (f : Nat) : Option Plan := match t with
  | none => none
  | some d =>
    match d.u with
    | .struct fields => match fields[f]? with
      | some fd => (match td P fd.type with
        | some de => if de.size = 0 then none else
          (match c with
          | .bp b off => some (.pure (.bp b (off + fd.offset)))
          | .kp xs => if fd.offset ≤ xs.length then some (.pure (.kp (xs.drop fd.offset))) else none
          | _ => none)
        | none => none)
      | none => none
    | _ => none
/-! slices -/
def sl2 (hi lo : Option C) (n : Nat) (F : Nat → Nat → Option Plan) : Option Plan := match bound? hi n n with
  | some h => (match bound? lo 0 h with
    | some k => F h k
    | none => none)
  | none => none
def slS (hi lo : Option Nat) (F : Nat → Nat → Option Plan) : Option Plan := match hi, lo with
  | some h, some k => F h k
  | _, _ => none
def slP (P : Program) (t : Option TD) (c : C) (lo hi : Option C) : Option Plan := match t with
  | none => none
  | some d =>
    match d.u, c with
    | .string, .val (.string s) => sl2 hi lo s.size fun h k => some (vp (.val (.string (s.extract k h))))
    | .slice e, .sv b off n => (match td P e with
      | some de => sl2 hi lo n fun h k => some (vp (.sv b (off + k * de.size) (h - k)))
      | none => none)
    | .slice e, c => (match td P e, c.sl? with
      | some de, some (n, xs) => if xs.length = n * de.size then sl2 hi lo n fun h k => some (vp (.sl .no (h - k) ((xs.drop (k * de.size)).take ((h - k) * de.size)))) else none
      | _, _ => none)
    | .array n e, .bp b off => (match td P e with
      | some de => if 65536 < n then none else sl2 hi lo n fun h k => some (vp (.sv b (off + k * de.size) (h - k)))
      | none => none)
    | .array n e, .kp xs => (match td P e with
      | some de => if 65536 < n ∨ xs.length < n * de.size then none else sl2 hi lo n fun h k => some (vp (.sl .no (h - k) ((xs.drop (k * de.size)).take ((h - k) * de.size))))
      | none => none)
    | _, _ => none
theorem slice_td (t : TypeId) (c : C) (lo hi : Option C) : slicePlan P t c lo hi none = slP P (td P t) c lo hi := by
  unfold slicePlan slP sl2
  cases td P t with
  | none => rfl
  | some d =>
    obtain ⟨u, s, y, z⟩ := d
    simp only [Option.isSome_none, Bool.false_eq_true, if_false, false_or, Option.isNone_none, true_or, and_true, bound_none, false_and]
    cases u with
    | string => cases c with
      | val v => cases v <;> rfl
      | _ => rfl
    | slice e => cases c <;> rfl
    | array n e => cases c <;> rfl
    | _ => rfl
theorem sl2_nI (lo : Option C) (n h : Nat) (F : Nat → Nat → Option Plan) (hh : h ≤ n) : sl2 (some (.val (nI h))) lo n F = slS (some h) (bound? lo 0 h) F := by
  unfold sl2 slS; rw [bound_nI _ _ _ hh]; simp only []; cases bound? lo 0 h <;> rfl
theorem slS_some (h k : Nat) (F : Nat → Nat → Option Plan) : slS (some h) (some k) F = F h k := rfl
theorem slP_sl {α : Type} (f : α → List C) {s0 : Nat} [hf : Cel f s0] (e : TypeId) (r : Rt) (l : List α) (lo hi : Option C) (u : TypeDesc) (y : Nat) (z : List Value) (h : td P e = some ⟨u, s0, y, z⟩) :
    slP P (some ⟨.slice e, a1, b1, z1⟩) (sl f r l) lo hi = sl2 hi lo l.length fun h k => some (vp (sl f .no ((l.drop k).take (h - k)))) := by
  show (match td P e, (sl f r l).sl? with | some de, some (n, xs) => _ | _, _ => none) = _
  rw [h]
  simp only [sl, C.sl?]
  rw [if_pos (cl_len (f := f) l)]
  simp only [cl_drop, cl_take]
  unfold sl2
  cases hb : bound? hi l.length l.length with
  | none => rfl
  | some hh =>
    simp only []
    cases hb2 : bound? lo 0 hh with
    | none => rfl
    | some k =>
      have h1 : hh ≤ l.length := by
        unfold bound? at hb
        split at hb
        · simp only [Option.some.injEq] at hb; omega
        · split at hb
          · split at hb
            · simp only [Option.some.injEq] at hb; omega
            · cases hb
          · cases hb
      simp only [List.length_take, List.length_drop]
      rw [Nat.min_eq_left (by omega)]
/-! append -/
def apS (x : C) (de : TD) (xt : Option Nat) : Option (Nat × List C × Option Nat) := match x with
  | .val (.slice none 0 0) => some (0, [], none)
  | .sl .full n xs => some (n, xs, none)
  | .sl (.own s) n xs => if s = de.size then some (n, xs, xt) else none
  | _ => none
def apF (de : TD) (n : Nat) (xs : List C) (m : Nat) (ys : List C) : Option C :=
  if xs.length = n * de.size ∧ ys.length = m * de.size ∧ 0 < de.size ∧ de.zero.length = de.size ∧ (n + m) * de.bytes ≤ 140737488355328 ∧ n + m ≤ 9223372036854775807 then some (.sl (.own de.size) (n + m) (xs ++ ys)) else none
def apP (P : Program) (t t2 : Option TD) (x y : C) (xt : Option Nat) : Option Plan := match t, t2 with
  | none, _ => none
  | _, none => none
  | some d, some d2 =>
    if notInt d2.u = false then none else
    match d.u with
    | .slice e => match td P e with
      | none => none
      | some de => match apS x de xt with
        | none => none
        | some (n, xs, k) =>
          match y with
          | .sv b off m => if k.isSome then some (.wr b (fun cells => (if off + m * de.size ≤ cells.length then apF de n xs m (((cells.drop off).take (m * de.size)).map C.noR) else none).map fun c => (cells, c)) k)
            else some (.rd b fun cells => if off + m * de.size ≤ cells.length then apF de n xs m (((cells.drop off).take (m * de.size)).map C.noR) else none)
          | y => match src? y with
            | some (m, ys) => (apF de n xs m ys).map fun c => .val c k
            | none => none
    | _ => none
theorem app_td (t t2 : TypeId) (x y : C) (xt : Option Nat) : appendPlan P t t2 x y xt = apP P (td P t) (td P t2) x y xt := rfl
def apQ (de : Option TD) (x y : C) (xt : Option Nat) : Option Plan := match de with
  | none => none
  | some de => match apS x de xt with
    | none => none
    | some (n, xs, k) =>
      match y with
      | .sv b off m => if k.isSome then some (.wr b (fun cells => (if off + m * de.size ≤ cells.length then apF de n xs m (((cells.drop off).take (m * de.size)).map C.noR) else none).map fun c => (cells, c)) k)
            else some (.rd b fun cells => if off + m * de.size ≤ cells.length then apF de n xs m (((cells.drop off).take (m * de.size)).map C.noR) else none)
      | y => match src? y with
        | some (m, ys) => (apF de n xs m ys).map fun c => .val c k
        | none => none
theorem app_ss (e e2 : TypeId) (x y : C) (xt : Option Nat) : apP P (some ⟨.slice e, a1, b1, z1⟩) (some ⟨.slice e2, a2, b2, z2⟩) x y xt = apQ (td P e) x y xt := rfl
section
variable {α : Type} (f : α → List C) {s : Nat} [hf : Cel f s] (u : TypeDesc) (y : Nat) (z : List Value)
theorem apF_cl (l l' : List α) (hz : z.length = s) (h : (l.length + l'.length) * y ≤ 140737488355328 ∧ l.length + l'.length ≤ 9223372036854775807) :
    apF ⟨u, s, y, z⟩ l.length (cl f l) l'.length (cl f l') = some (sl f (.own s) (l ++ l')) := by
  unfold apF
  rw [if_pos ⟨cl_len (f := f) l, cl_len (f := f) l', hf.pos, hz, h.1, h.2⟩]
  simp [sl, cl_app]
theorem apQ_own (l l' : List α) (r : Rt) (xt : Option Nat) (hz : z.length = s) (h : (l.length + l'.length) * y ≤ 140737488355328 ∧ l.length + l'.length ≤ 9223372036854775807) :
    apQ (some ⟨u, s, y, z⟩) (sl f (.own s) l) (sl f r l') xt = some (.val (sl f (.own s) (l ++ l')) xt) := by
  show (match (if s = s then some (l.length, cl f l, xt) else none) with | none => none | some (n, xs, k) => (match some (l'.length, cl f l') with | some (m, ys) => (apF ⟨u, s, y, z⟩ n xs m ys).map fun c => Plan.val c k | none => none)) = _
  rw [if_pos rfl]
  simp only [apF_cl f u y z l l' hz h, Option.map_some]
end
/-! new boxes -/
def boxQ (cs : Option (List C)) : Option Plan := match cs with
  | some cs => some (.new cs fun id => .bp id 0)
  | none => none
theorem box_cs (x : C) : boxP x = boxQ x.cells? := by unfold boxP boxQ; cases x.cells? <;> rfl
theorem boxQ_some (cs : List C) : boxQ (some cs) = some (.new cs fun id => .bp id 0) := rfl
theorem pick_tf (x y : C) : pickP (.val (.bool true)) x y = some (vp x) := rfl
theorem pick_ff (x y : C) : pickP (.val (.bool false)) x y = some (vp y) := rfl
/-! arrays out of slices of boxes, and copies -/
end
end Go.Sx
namespace Go.Sx
open Go.RowKit
def pk (e : List (Nat × C)) : List Nat → List (Nat × C)
  | [] => []
  | k :: ks => (k, A e k) :: pk e ks
theorem A_pk (e : List (Nat × C)) (t : Nat) : ∀ ks : List Nat, A (pk e ks) t = .top ∨ A (pk e ks) t = A e t
  | [] => .inl rfl
  | k :: ks => by
    simp only [pk, A]
    by_cases h : t = k
    · subst h; right; simp
    · simp only [if_neg h]; exact A_pk e t ks
theorem pk_nil (e : List (Nat × C)) : pk e [] = [] := rfl
theorem pk_cons (e : List (Nat × C)) (k : Nat) (ks : List Nat) : pk e (k :: ks) = (k, A e k) :: pk e ks := rfl
section
variable {cx : Cx} {n : Nat} {Q : Ex → St → Prop} {e : List (Nat × C)} {h : Hp}
theorem Tr.kp (ks : List Nat) {c : Code} (H : Tr cx n c ⟨A (pk e ks), h⟩ Q) : Tr cx n c ⟨A e, h⟩ Q := by
  refine Tr.weaken (fun t => ?_) H
  rcases A_pk e t ks with q | q
  · rw [q]; exact CLe.top _
  · rw [q]; exact CLe.refl _
end
def condG (c : C) (p q : Prop) : Prop := ∃ b, c = .val (.bool b) ∧ GB b p q
theorem condG_bool (b : Bool) (p q : Prop) : condG (.val (.bool b)) p q = GB b p q := by
  simp [condG]
theorem Tr.condG {cx : Cx} {n : Nat} {Q : Ex → St → Prop} {e : List (Nat × C)} {h : Hp} {c : Operand} {x y : Code} (H : ∀ KT KF : Prop, (Tr cx n x ⟨A e, h⟩ Q → KT) → (Tr cx n y ⟨A e, h⟩ Q → KF) → Sx.condG (cx.ev (A e) c) KT KF) : Tr cx n (.cond c x y) ⟨A e, h⟩ Q := by
  obtain ⟨b, h1, h2, h3⟩ := H _ _ (fun x => x) (fun x => x)
  exact Tr.cond_split h1 h2 h3
theorem gt_def {α : Type} [Inhabited α] (l : List α) (k : Nat) : l.getD k default = gt l k := rfl
theorem thenQ_n (K : St → Prop) (Q : Ex → St → Prop) (s : St) : thenQ K Q .normal s = K s := rfl
theorem thenQ_r (K : St → Prop) (Q : Ex → St → Prop) (s : St) : thenQ K Q .ret s = Q .ret s := rfl
theorem blockQ_n (k : Nat) (Q : Ex → St → Prop) (s : St) : blockQ k Q .normal s = Q .normal s := rfl
theorem blockQ_r (k : Nat) (Q : Ex → St → Prop) (s : St) : blockQ k Q .ret s = Q .ret s := rfl
theorem EndsR_r (cx : Cx) (rs : List ResultVar) (c : C) (st : St) : EndsR cx rs c .ret st = (resL cx st rs = some c) := rfl
theorem resL_one (cx : Cx) (st : St) (r : ResultVar) : resL cx st [r] = resC cx st r := rfl
theorem resC_tmp (cx : Cx) (e : List (Nat × C)) (h : Hp) (t : Nat) : resC cx ⟨A e, h⟩ (.tmp t) = some (A e t) := rfl
def rcP (t : Option TD) (c : C) (h : Hp) : Option C := match t, c with
  | some d, .bp b off => (h.at b).bind fun cells => getAt d cells off
  | _, _ => none
theorem resC_cell (cx : Cx) (e : List (Nat × C)) (h : Hp) (a : Nat) (t : TypeId) : resC cx ⟨A e, h⟩ (.cell a t) = rcP (td cx.P t) (A e a) h := rfl
theorem rcP_struct (fs : Array Field) (a b : Nat) (z : List Value) (x o : Nat) (h : Hp) : rcP (some ⟨.struct fs, a, b, z⟩) (.bp x o) h = (h.at x).bind fun cells => rda cells o a := rfl
theorem Le_nil (env : Nat → C) : Le env [] = True := rfl
theorem Le_cons (env : Nat → C) (k : Nat) (c : C) (l : List (Nat × C)) : Le env ((k, c) :: l) = (CLe (env k) c ∧ Le env l) := rfl
theorem CLe_refl (c : C) : CLe c c = True := by simp [CLe.refl]
theorem CLe_top (c : C) : CLe c .top = True := by simp [CLe.top]
theorem CLe_full {α : Type} (f : α → List C) (r : Rt) (l : List α) : CLe (sl f .full l) (sl f r l) = True := by simp only [sl, eq_iff_iff, iff_true]; exact CLe.full ..
theorem CLe_nil {α : Type} (f : α → List C) (r : Rt) : CLe (.val (.slice none 0 0)) (sl f r []) = True := by simp only [sl, eq_iff_iff, iff_true]; exact CLe.nil _
theorem CLe_own {α : Type} (f : α → List C) (s : Nat) (l : List α) : CLe (sl f (.own s) l) (sl f .no l) = True := eq_true (CLe.noR (sl f (.own s) l))
theorem un_not (b : Bool) : unPlan .not (.val (.bool b)) = some (vp (.val (.bool (!b)))) := rfl
end Go.Sx
namespace Go.Sx
open Go.RowKit
end Go.Sx
namespace Go.Sx
open Go.RowKit
def refy : List C → Bool
  | [] => false
  | .sv _ _ _ :: _ => true
  | .bp _ _ :: _ => true
  | .gv _ _ _ :: _ => true
  | _ :: l => refy l
theorem refy_not : ∀ l : List C, refy l = true → noRefs 0 l = false
  | [], h => by cases h
  | c :: l, h => by
    cases c with
    | sv b o n => simp [noRefs, noRef]
    | bp b o => simp [noRefs, noRef]
    | gv b o s => simp [noRefs, noRef]
    | _ =>
      have := refy_not l h
      simp only [noRefs, this, Bool.and_false]
class Fla {α : Type} (f : α → List C) : Prop where
  flat : ∀ a, flats (f a) = true
instance : Fla bC := ⟨fun _ => rfl⟩
instance : Fla wC := ⟨fun _ => rfl⟩
instance : Fla sC := ⟨fun _ => rfl⟩
instance : Fla iC := ⟨fun _ => rfl⟩
instance : Fla nC := ⟨fun _ => rfl⟩
instance : Fla oC := ⟨fun _ => rfl⟩
theorem flats_app (xs ys : List C) : flats (xs ++ ys) = (flats xs && flats ys) := by
  induction xs with
  | nil => simp [flats]
  | cons x xs ih => simp only [List.cons_append, flats, ih, Bool.and_assoc]
theorem noRefs_app (k : Nat) (xs ys : List C) : noRefs k (xs ++ ys) = (noRefs k xs && noRefs k ys) := by
  induction xs with
  | nil => simp [noRefs]
  | cons x xs ih => simp only [List.cons_append, noRefs, ih, Bool.and_assoc]
theorem flats_cl {α : Type} (f : α → List C) [h : Fla f] : ∀ l : List α, flats (cl f l) = true
  | [] => rfl
  | a :: l => by rw [cl_cons, flats_app, h.flat, flats_cl f l]; rfl
mutual
theorem flat_noRef (k : Nat) : ∀ c : C, flat c = true → noRef k c = true
  | .val _, _ => rfl
  | .agg xs, h => by simp only [flat] at h; simp only [noRef]; exact flats_noRefs k xs h
  | .tup xs, h => by simp only [flat] at h; simp only [noRef]; exact flats_noRefs k xs h
  | .top, h => by cases h
  | .sl _ _ _, h => by cases h
  | .sv _ _ _, h => by cases h
  | .bp _ _, h => by cases h
  | .kp _, h => by cases h
  | .fn _ _, h => by cases h
theorem flats_noRefs (k : Nat) : ∀ l : List C, flats l = true → noRefs k l = true
  | [], _ => rfl
  | x :: xs, h => by
    simp only [flats, Bool.and_eq_true] at h
    simp only [noRefs, flat_noRef k x h.1, flats_noRefs k xs h.2, Bool.and_self]
end
theorem noRefs_cl {α : Type} (f : α → List C) [h : Fla f] (k : Nat) (l : List α) : noRefs k (cl f l) = true := flats_noRefs k _ (flats_cl f l)
theorem noRef_sl {α : Type} (f : α → List C) [h : Fla f] (k : Nat) (r : Rt) (l : List α) : noRef k (sl f r l) = true := noRefs_cl f k l
theorem noRef_agg (k : Nat) (xs : List C) : noRef k (.agg xs) = noRefs k xs := rfl
theorem noRef_tup (k : Nat) (xs : List C) : noRef k (.tup xs) = noRefs k xs := rfl
theorem noRef_kp (k : Nat) (xs : List C) : noRef k (.kp xs) = noRefs k xs := rfl
theorem noRef_val (k : Nat) (v : Value) : noRef k (.val v) = true := rfl
theorem noRefs_nil (k : Nat) : noRefs k [] = true := rfl
theorem noRefs_cons (k : Nat) (c : C) (l : List C) : noRefs k (c :: l) = (noRef k c && noRefs k l) := rfl
theorem callQ_some (cx : Cx) (g : Nat) (as : List C) (c : C) : callQ cx g as (some c) = some (vp c) := rfl
theorem CxOK.ext2 {P : Program} {gl : Nat → C} {pu : Nat → List C → Option C} {N M : Nat} (hcx : CxOK ⟨P, N, gl, pu, fun _ _ _ => none, fun _ => false⟩)
    {α : Type} {enc : α → List C} {out : α → C} {f : Nat} (he : ∀ a, noRefs 0 (enc a) = true) (h : ∀ a, FC P gl f (enc a) [] (out a) []) : CxOK ⟨P, M, gl, Sx.ext pu f (tabOf enc out), fun _ _ _ => none, fun _ => false⟩ :=
  hcx.ext (M := M) hcx.glo he h
theorem wrc_i (l : List (Int)) (k : Nat) (a : Int) (h : k < l.length) : wrc (cl iC l) k [.val (.int .i64 a)] = some (cl iC (l.set k a), .val undef) := wrc_cl (f := iC) l k a h
def slG (de : Option TD) (s : Nat) (p : Option Plan) : Option Plan := match de with
  | some de => if de.size = s then p else none
  | none => none
section
variable (P : Program) (a1 b1 : Nat) (z1 : List Value)
def slH (de : Option TD) (s : Nat) (p q : Option Plan) : Option Plan := match de with
  | some de => if de.size = s then p else q
  | none => q
theorem slH_some (u : TypeDesc) (s y : Nat) (z : List Value) (p q : Option Plan) : slH (some ⟨u, s, y, z⟩) s p q = p := if_pos rfl
def slPo {α : Type} (f : α → List C) (e : TypeId) (r : Rt) (l : List α) (lo hi : Option C) : Option Plan := slP P (some ⟨.slice e, a1, b1, z1⟩) (sl f r l) lo hi
theorem slP_slT {α : Type} (f : α → List C) {s0 : Nat} [hf : Cel f s0] (e : TypeId) (r : Rt) (l : List α) (lo hi : Option C) :
    slP P (some ⟨.slice e, a1, b1, z1⟩) (sl f r l) lo hi = slH (td P e) s0 (sl2 hi lo l.length fun h k => some (vp (sl f .no ((l.drop k).take (h - k))))) (slPo P a1 b1 z1 f e r l lo hi) := by
  unfold slPo
  cases hq : td P e with
  | none => rfl
  | some de =>
    obtain ⟨u, s, y, z⟩ := de
    unfold slH
    simp only []
    split
    · rename_i hs
      subst hs
      exact slP_sl P a1 b1 z1 f e r l lo hi u y z hq
    · rfl
end
def ixL (de : Option TD) (k : Option Nat) (n : Nat) (xs : List C) : Option Plan := ixS de k fun s k => if xs.length = n * s ∧ xs ≠ [] then some (vp (.kp (xs.drop (k * s)))) else none
theorem ixa_slT {α : Type} (f : α → List C) (P : Program) (a1 b1 : Nat) (z1 : List Value) (e : TypeId) (r : Rt) (l : List α) (i : C) : ixaP P (some ⟨.slice e, a1, b1, z1⟩) (sl f r l) i = ixL (td P e) (idx? i l.length) l.length (cl f l) := ixa_sl P a1 b1 z1 f e r l i
theorem ixL_some {α : Type} (f : α → List C) {s : Nat} [hf : Cel f s] (u : TypeDesc) (y : Nat) (z : List Value) (k : Nat) (l : List α) (h : k < l.length) : ixL (some ⟨u, s, y, z⟩) (some k) l.length (cl f l) = some (vp (.kp ((cl f l).drop (k * s)))) := by
  show (if (cl f l).length = l.length * s ∧ cl f l ≠ [] then some (vp (.kp ((cl f l).drop (k * s)))) else none) = _
  rw [if_pos ⟨cl_len (f := f) l, fun e => by
    have h1 := cl_len (f := f) l
    rw [e] at h1
    have h2 := hf.pos
    have h3 : l.length * s ≠ 0 := Nat.mul_ne_zero (by omega) (by omega)
    exact h3 h1.symm⟩]
theorem refy_sv (b o n : Nat) (l : List C) : refy (.sv b o n :: l) = true := id rfl
theorem refy_bp (b o : Nat) (l : List C) : refy (.bp b o :: l) = true := id rfl
theorem refy_agg (xs l : List C) : refy (.agg xs :: l) = refy l := id rfl
theorem refy_val (v : Value) (l : List C) : refy (.val v :: l) = refy l := id rfl
theorem refy_kp (xs l : List C) : refy (.kp xs :: l) = refy l := id rfl
theorem refy_tsl {α : Type} (f : α → List C) (r : Rt) (x : List α) (l : List C) : refy (sl f r x :: l) = refy l := id rfl
theorem one_nI (x : Nat) : (nI x).oneCell' = true := id rfl
theorem one_slice : (Value.slice none 0 0).oneCell' = true := id rfl
end Go.Sx
namespace Go.Sx
open Go.RowKit
theorem gt_cons0 {α : Type} [Inhabited α] (a : α) (l : List α) : gt (a :: l) 0 = a := rfl
theorem gt_consS {α : Type} [Inhabited α] (a : α) (l : List α) (n : Nat) : gt (a :: l) (n + 1) = gt l n := by simp [gt, List.getD]
def lay1 (cells : List C) : List (Nat × C) → Option Plan
  | [] => some (vp (.agg cells))
  | (i, c) :: r => match c.cells? with
    | some cs => if cs.length = 1 ∧ i + 1 ≤ cells.length then lay1 (splice cells i cs) r else none
    | none => none
def buildA (de : Option TD) (z : List Value) (parts : List (Nat × C)) (q : Option Plan) : Option Plan := match de with
  | some d => if d.size = 1 ∧ z.all (·.oneCell') = true then lay1 (z.map .val) parts else q
  | none => q
/- slices built of their elements -/
def lay1s (n : Nat) (cells : List C) : List (Nat × C) → Option Plan
  | [] => some (vp (.sl .full n cells))
  | (i, c) :: r => match c.cells? with
    | some cs => if cs.length = 1 ∧ i + 1 ≤ cells.length then lay1s n (splice cells i cs) r else none
    | none => none
theorem lay1s_eq (n : Nat) : ∀ (parts : List (Nat × C)) (cells : List C), (lay (fun i => some (i * 1, 1)) cells parts).map (fun cs => vp (.sl .full n cs)) = lay1s n cells parts
  | [], cells => rfl
  | (i, c) :: r, cells => by
    unfold lay lay1s
    cases c.cells? with
    | none => rfl
    | some cs =>
      simp only [Nat.mul_one]
      split
      · have := lay1s_eq n r (splice cells i cs)
        simpa only [Nat.mul_one] using this
      · rfl
def bsA (de : Option TD) (n : Nat) (parts : List (Nat × C)) : Option Plan := match de with
  | some de => if n * de.size ≤ 65536 ∧ n ≤ 65536 ∧ de.zero.length = de.size ∧ de.zero.all (·.oneCell') = true then
      (lay (fun i => some (i * de.size, de.size)) (repZero de.zero n) parts).map fun cs => vp (.sl .full n cs) else none
  | none => none
theorem bs_slice (P : Program) (e : TypeId) (s y n : Nat) (z : List Value) (parts : List (Nat × C)) : buildSliceP P false (some ⟨.slice e, s, y, z⟩) n parts = bsA (td P e) n parts := rfl
theorem repZero_one (v : Value) : ∀ n, repZero [v] n = List.replicate n (.val v)
  | 0 => rfl
  | n + 1 => by rw [List.replicate_succ, ← repZero_one v n]; rfl
theorem bsA_one (u : TypeDesc) (y n : Nat) (v : Value) (parts : List (Nat × C)) (h : v.oneCell' = true) (hn : n ≤ 65536) : bsA (some ⟨u, 1, y, [v]⟩) n parts = lay1s n (List.replicate n (.val v)) parts := by
  unfold bsA
  simp only [Nat.mul_one, List.length_singleton, List.all_cons, List.all_nil, h, Bool.and_self, hn, and_self, if_true]
  rw [repZero_one]
  have := lay1s_eq n parts (List.replicate n (.val v))
  simpa only [Nat.mul_one] using this
/- whole boxes, and copies into them -/
/- zero values, and structs built of their parts -/
def zc (z : List Value) : List C := z.map .val
theorem zc_nil : zc [] = [] := rfl
theorem zc_cons (v : Value) (l : List Value) : zc (v :: l) = .val v :: zc l := rfl
def allOne (z : List Value) : Bool := z.all (·.oneCell')
theorem allOne_nil : allOne [] = true := rfl
theorem allOne_cons (v : Value) (l : List Value) : allOne (v :: l) = (v.oneCell' && allOne l) := rfl
def alQ (b : Bool) (cs : List C) : Option Plan := if b then some (.new cs fun id => .bp id 0) else none
theorem alloc_z (u : TypeDesc) (s y : Nat) (z : List Value) : allocP (some ⟨u, s, y, z⟩) = alQ (allOne z) (zc z) := rfl
theorem alQ_true (cs : List C) : alQ true cs = some (.new cs fun id => .bp id 0) := rfl
def plc (P : Program) : List Field → Option (List (Nat × Nat))
  | [] => some []
  | fd :: l => match td P fd.type, plc P l with
    | some d, some r => some ((fd.offset, d.size) :: r)
    | _, _ => none
theorem plc_eq (P : Program) : ∀ l : List Field, (l.mapM fun f => (td P f.type).map fun d => (f.offset, d.size)) = plc P l
  | [] => rfl
  | fd :: l => by
    rw [List.mapM_cons, plc_eq P l]
    simp only [plc, Option.bind_eq_bind, Option.pure_def]
    cases td P fd.type with
    | none => rfl
    | some d => cases plc P l <;> rfl
def plQ (d : Option TD) (o : Nat) (r : Option (List (Nat × Nat))) : Option (List (Nat × Nat)) := match d, r with
  | some d, some r => some ((o, d.size) :: r)
  | _, _ => none
theorem plc_nil (P : Program) : plc P [] = some [] := rfl
theorem plc_cons (P : Program) (nm : String) (t : TypeId) (o : Nat) (em : Bool) (tg pp : String) (bo : Nat) (l : List Field) : plc P (⟨nm, t, o, em, tg, pp, bo⟩ :: l) = plQ (td P t) o (plc P l) := by
  simp only [plc, plQ]
theorem plQ_some (u : TypeDesc) (s y : Nat) (z : List Value) (o : Nat) (r : List (Nat × Nat)) : plQ (some ⟨u, s, y, z⟩) o (some r) = some ((o, s) :: r) := rfl
def layS (pl : List (Nat × Nat)) (cells : List C) : List (Nat × C) → Option Plan
  | [] => some (vp (.agg cells))
  | (i, c) :: rest => match pl[i]?, c.cells? with
    | some (off, size), some cs => if cs.length = size ∧ off + size ≤ cells.length then layS pl (splice cells off cs) rest else none
    | _, _ => none
theorem layS_eq (pl : List (Nat × Nat)) : ∀ (parts : List (Nat × C)) (cells : List C), (lay (fun i => pl[i]?) cells parts).map (fun cs => vp (.agg cs)) = layS pl cells parts
  | [], cells => rfl
  | (i, c) :: r, cells => by
    unfold lay layS
    cases pl[i]? with
    | none => rfl
    | some p =>
      obtain ⟨off, size⟩ := p
      cases c.cells? with
      | none => rfl
      | some cs =>
        simp only []
        split
        · exact layS_eq pl r _
        · rfl
def bldS (b : Bool) (pl : Option (List (Nat × Nat))) (cells : List C) (parts : List (Nat × C)) : Option Plan := if b then (match pl with
  | some pl => layS pl cells parts
  | none => none) else none
theorem build_struct (P : Program) (fs : List Field) (s y : Nat) (z : List Value) (parts : List (Nat × C)) : buildP P (some ⟨.struct fs.toArray, s, y, z⟩) parts = bldS (allOne z) (plc P fs) (zc z) parts := by
  unfold buildP bldS allOne zc
  simp only [places]
  by_cases h : z.all (·.oneCell') = true
  · rw [if_neg (by rw [h]; decide), if_pos h, plc_eq]
    cases plc P fs with
    | none => rfl
    | some pl => exact layS_eq pl parts _
  · rw [if_pos (by simpa using h), if_neg h]
theorem bldS_true (pl : List (Nat × Nat)) (cells : List C) (parts : List (Nat × C)) : bldS true (some pl) cells parts = layS pl cells parts := rfl
def layQ (pl : List (Nat × Nat)) (p : Option (Nat × Nat)) (cs : Option (List C)) (cells : List C) (r : List (Nat × C)) : Option Plan := match p, cs with
  | some (off, size), some cs => if cs.length = size ∧ off + size ≤ cells.length then layS pl (splice cells off cs) r else none
  | _, _ => none
def layW (pl : List (Nat × Nat)) (q : Option (List C × C)) (r : List (Nat × C)) : Option Plan := match q with
  | some q => layS pl q.1 r
  | none => none
theorem layS_nil (pl : List (Nat × Nat)) (cells : List C) : layS pl cells [] = some (vp (.agg cells)) := rfl
theorem layS_cons (pl : List (Nat × Nat)) (cells : List C) (i : Nat) (c : C) (r : List (Nat × C)) : layS pl cells ((i, c) :: r) = layQ pl (pl[i]?) c.cells? cells r := by
  rw [layS.eq_def]; rfl
theorem layQ_some (pl : List (Nat × Nat)) (off size : Nat) (cs cells : List C) (r : List (Nat × C)) (h : cs.length = size) : layQ pl (some (off, size)) (some cs) cells r = layW pl (wrc cells off cs) r := by
  subst h
  unfold layQ layW wrc
  simp only [true_and]
  split <;> rfl
theorem layW_some (pl : List (Nat × Nat)) (cells : List C) (c : C) (r : List (Nat × C)) : layW pl (some (cells, c)) r = layS pl cells r := rfl
/- cells behind lists -/
section
variable {α β : Type} {f : α → List C} {s : Nat} [hf : Cel f s] {g : β → List C}
end
end Go.Sx
namespace Go.Sx
open Go.RowKit Go.ChangeShapes Go.WideShapes
/-- All of memory is known; nobody will write it. -/
def GW (W : World) : Gh := ⟨fun b o => W.cell? ⟨b, o, none⟩, fun _ => none, fun _ => none, fun _ => none⟩
theorem GW_ok (W : World) : WorldOK (GW W) [] W :=
  ⟨fun _ _ _ h => h, fun b cells h => (by simp [Hp.at] at h), fun b blk h => (by cases h), fun b b' c c' blk _ _ h => (by cases h), fun b blk h => (by cases h), fun g p h => (by cases h),
    fun b cells off s n xs blk v h => (by simp [Hp.at] at h), fun b z h => (by cases h)⟩
section
variable {P : Program} {t e : TypeId}
theorem rds_val {c v : Value} {G : Gh} (h : v = c) : RepL G [.val c] [v] := by
  simp only [RepL, Rep]; exact ⟨v, [], rfl, h, rfl⟩
theorem addr_add2 (b o x y : Nat) : ((⟨b, o, none⟩ : Addr).add x).add y = ⟨b, o + x + y, none⟩ := by
  simp only [Addr.add]
  by_cases hx : x = 0 <;> by_cases hy : y = 0 <;> simp [hx, hy]
theorem forall_lists {α : Type} {R : Nat → α → Prop} : ∀ n, (∀ i < n, ∃ a, R i a) → ∃ l : List α, l.length = n ∧ ∀ i a, l[i]? = some a → R i a
  | 0, _ => ⟨[], rfl, by simp⟩
  | n + 1, h => by
    obtain ⟨l, h1, h2⟩ := forall_lists n (fun i hi => h i (by omega))
    obtain ⟨a, ha⟩ := h n (by omega)
    refine ⟨l ++ [a], by simp [h1], fun i b hb => ?_⟩
    rw [List.getElem?_append] at hb
    split at hb
    · exact h2 i b hb
    · rename_i hi
      have : i = n := by
        have := (List.getElem?_eq_some_iff.1 hb).1
        simp at this; omega
      subst this
      simp [h1] at hb; subst hb; exact ha
theorem cl_getq {α : Type} {f : α → List C} {s : Nat} [hf : Cel f s] (l : List α) (i j : Nat) (hj : j < s) : (cl f l)[i * s + j]? = (l[i]?).bind fun a => (f a)[j]? := by
  have h1 : (cl f l)[i * s + j]? = ((cl f l).drop (i * s))[j]? := by rw [List.getElem?_drop]
  rw [h1, cl_drop]
  cases hq : l[i]? with
  | none =>
    rw [List.drop_of_length_le (by simpa using hq)]; rfl
  | some a =>
    obtain ⟨hi, rfl⟩ := List.getElem?_eq_some_iff.1 hq
    rw [List.drop_eq_getElem_cons hi, cl_cons, List.getElem?_append_left (by rw [hf.len]; exact hj)]; rfl
end
/-! Arguments. -/
section
variable {H : Type} {enc : TypeId × Value → H} {P : Program} {W : World} {base b0 : Nat} {sp : Nat → Bool} {held : Bool} {t : TypeId} {v : Value} {d : DataW H} {ps : List MemPlace}
end
/-! What a law owes when it returns. -/
def slicesB (P : Program) : Bool := (List.range P.types.size).all fun t => match P.underlying t with
  | some (.slice e) => decide (0 < P.cellsOf e)
  | _ => true
theorem trodAll_stays {H : Type} {enc : TypeId × Value → H} {P : Program} {W W' : World} {sp : Nat → Bool} (hl : laidOutB P = true) (hm : mapsRowed P = true) (hs : slicesB P = true) :
    ∀ (ts : List TypeId) (vs : List Value) (ds : List (DataW H)) (ps : List MemPlace), (∀ t ∈ ts, t < P.types.size) → DataW.TrodAll enc P W 0 (fun _ => true) true ts vs ds ps →
      (∀ p ∈ ps, W.sameAt W' p) → (∀ p ∈ ps, sp p.block = true) → DataW.TrodAll enc P W' 0 sp true ts vs ds ps
  | [], [], [], ps, _, h, _, _ => h
  | t :: ts, v :: vs, d :: ds, ps, hb, h, h1, h2 => by
    obtain ⟨p, q, ⟨fuel, h3⟩, h4, rfl⟩ := h
    refine ⟨p, q, ⟨fuel, ?_⟩, trodAll_stays hl hm hs ts vs ds q (fun t ht => hb t (List.mem_cons_of_mem _ ht)) h4 (fun p hp => h1 p (List.mem_append_right _ hp)) (fun p hp => h2 p (List.mem_append_right _ hp)), rfl⟩
    refine DataW.trod_stays (T := (· < P.types.size)) (kids_rows hl hm) (fun {t e} ht he => ?_) (fun h => by cases h) (hb t (List.mem_cons_self ..)) h3 (fun p hp => h1 p (List.mem_append_left _ hp)) (fun p hp => h2 p (List.mem_append_left _ hp))
    have := List.all_eq_true.1 hs t (List.mem_range.2 ht)
    rw [he] at this
    simpa using this
  | [], [], _ :: _, _, _, h, _, _ => h.elim
  | [], _ :: _, _, _, _, h, _, _ => h.elim
  | _ :: _, [], _, _, _, h, _, _ => h.elim
  | _ :: _, _ :: _, [], _, _, h, _, _ => h.elim
theorem law_post {H : Type} {enc : TypeId × Value → H} {P : Program} {f : Func} {s : ChangeSpec} {fresh handsOn again : Bool} {W W' : World} {args : Array Value} {ds gs : List (DataW H)} {before : List MemPlace} {t : TypeId}
    (hl : laidOutB P = true) (hm : mapsRowed P = true) (hsl : slicesB P = true) (hps : ∀ t ∈ f.params.toList, t < P.types.size)
    (hW : DataW.Whole enc P f.params.toList s.vars false W args.toList ds gs before) (hv : s.vars = [])
    (hs : s.fn H ds = { results := [.lit (.bool true)], args := ds }) (hr : f.resultTypes = #[t]) (ht : P.underlying t = some .bool)
    (hos : W'.os = W.os) (hout : W'.output = W.output) (hold : ∀ g < W.heap.size, W'.heap[g]? = W.heap[g]?) :
    s.post enc P f false fresh handsOn again W args (.bool true) W' := by
  have hlt := hW.lt
  have hW0 := hW
  obtain ⟨p, q, h1, h2, rfl, hz, hn⟩ := hW
  rw [hv] at h2
  obtain ⟨rfl, rfl⟩ := trodVars_none h2
  simp only [List.append_nil] at hW0 hlt hz hn
  have same : ∀ x ∈ p, W.sameAt W' x := fun x hx => by
    have hb := hold _ (hlt x hx)
    cases x with
    | cell b o => simp only [World.sameAt, MemPlace.block] at hb ⊢; simp only [World.cell?]; rw [hb]
    | map b => exact hb
  have args' : ∀ sp : Nat → Bool, (∀ x ∈ p, sp x.block = true) → DataW.TrodAll enc P W' 0 sp true f.params.toList args.toList ds p := fun sp hsp =>
    trodAll_stays hl hm hsl _ _ _ _ hps h1 same hsp
  have res : ∀ (b : Nat) (sp : Nat → Bool) (hd : Bool), DataW.TrodAll enc P W' b sp hd f.resultTypes.toList ((Value.bool true).resultList f.resultTypes.size) [.lit (.bool true)] [] := fun b sp hd => by
    rw [hr]; exact trodAll_mk1 (shut_bool ht true)
  refine ⟨ds, [], p, [], p, [], hW0, ?_, ?_, ?_, ?_, fun _ => ⟨?_, .lit (.bool true) :: ds, [], p, ⟨p, [], ?_, ?_, by simp, fun b off hp => ?_, fun h => by cases h⟩, fun x hx _ => hx⟩⟩
  · rw [List.append_nil, hs]; exact res _ _ _
  · rw [List.append_nil, hs]; exact args' _ fun x hx => by simpa using hlt x hx
  · rw [List.append_nil, hs, hv]; rfl
  · refine ⟨hos, hout, fun i hi => ?_⟩
    rw [hold i hi]
    cases W.heap[i]? with
    | none => rfl
    | some o => cases o <;> simp
  · exact ok_one hr rfl (okWide_bool_mk ht true)
  · rw [hr]
    exact ⟨[], p, shut_bool ht true, args' (fun _ => true) fun _ _ => rfl, rfl⟩
  · rw [hv]; rfl
  · have := hz b off hp
    simp only [World.frozen?] at this ⊢
    rw [hold b (hlt _ hp)]; exact this
end Go.Sx
namespace Go.Sx
open Go.RowKit
theorem int_cast (n : Nat) : Value.int .i64 (n : Int) = nI n := id rfl
section
variable (P : Program) (t : TypeId)
theorem i_add (x y : Int) (h : -9223372036854775808 ≤ x + y ∧ x + y < 9223372036854775808) : binPlan P .add t (.val (.int .i64 x)) (.val (.int .i64 y)) = some (vp (.val (.int .i64 (x + y)))) := by
  simp only [bin_int, sbin, ne_eq, not_true_eq_false, if_false, Option.map_some]
  rw [wrap_i64 _ (by omega) (by omega)]
theorem i_addn (x : Int) (y : Nat) (h : -9223372036854775808 ≤ x + y ∧ x + y < 9223372036854775808) : binPlan P .add t (.val (.int .i64 x)) (.val (nI y)) = some (vp (.val (.int .i64 (x + y)))) := i_add P t x y h
theorem i_sub (x y : Int) (h : -9223372036854775808 ≤ x - y ∧ x - y < 9223372036854775808) : binPlan P .sub t (.val (.int .i64 x)) (.val (.int .i64 y)) = some (vp (.val (.int .i64 (x - y)))) := by
  simp only [bin_int, sbin, ne_eq, not_true_eq_false, if_false, Option.map_some]
  rw [wrap_i64 _ (by omega) (by omega)]
theorem i_mul (x y : Int) (h : -9223372036854775808 ≤ x * y ∧ x * y < 9223372036854775808) : binPlan P .mul t (.val (.int .i64 x)) (.val (.int .i64 y)) = some (vp (.val (.int .i64 (x * y)))) := by
  simp only [bin_int, sbin, ne_eq, not_true_eq_false, if_false, Option.map_some]
  rw [wrap_i64 _ (by omega) (by omega)]
theorem i_rem (x y : Int) (h : y ≠ 0) : binPlan P .rem t (.val (.int .i64 x)) (.val (.int .i64 y)) = some (vp (.val (.int .i64 (x.tmod y)))) := by
  simp only [bin_int, sbin, ne_eq, not_true_eq_false, if_false, Option.map_some, h]
theorem i_remn (x : Int) (y : Nat) (h : 0 < y) : binPlan P .rem t (.val (.int .i64 x)) (.val (nI y)) = some (vp (.val (.int .i64 (x.tmod y)))) := i_rem P t x y (by omega)
theorem i_eql (x y : Int) : binPlan P .eql t (.val (.int .i64 x)) (.val (.int .i64 y)) = some (vp (.val (.bool (decide (x = y))))) := by
  simp only [bin_int, sbin, ne_eq, not_true_eq_false, if_false, Option.map_some]
  congr 4
theorem i_neq (x y : Int) : binPlan P .neq t (.val (.int .i64 x)) (.val (.int .i64 y)) = some (vp (.val (.bool (decide (x ≠ y))))) := by
  simp only [bin_int, sbin, ne_eq, not_true_eq_false, if_false, Option.map_some]
  congr 4; rw [Bool.eq_iff_iff]; simp
theorem i_lss (x y : Int) : binPlan P .lss t (.val (.int .i64 x)) (.val (.int .i64 y)) = some (vp (.val (.bool (decide (x < y))))) := by
  simp only [bin_int, sbin, ne_eq, not_true_eq_false, if_false, Option.map_some]
theorem i_leq (x y : Int) : binPlan P .leq t (.val (.int .i64 x)) (.val (.int .i64 y)) = some (vp (.val (.bool (decide (x ≤ y))))) := by
  simp only [bin_int, sbin, ne_eq, not_true_eq_false, if_false, Option.map_some]
theorem i_gtr (x y : Int) : binPlan P .gtr t (.val (.int .i64 x)) (.val (.int .i64 y)) = some (vp (.val (.bool (decide (y < x))))) := by
  simp only [bin_int, sbin, ne_eq, not_true_eq_false, if_false, Option.map_some]
theorem i_geq (x y : Int) : binPlan P .geq t (.val (.int .i64 x)) (.val (.int .i64 y)) = some (vp (.val (.bool (decide (y ≤ x))))) := by
  simp only [bin_int, sbin, ne_eq, not_true_eq_false, if_false, Option.map_some]
theorem i_eqln (x : Int) (y : Nat) : binPlan P .eql t (.val (.int .i64 x)) (.val (nI y)) = some (vp (.val (.bool (decide (x = y))))) := i_eql P t x y
theorem i_neqn (x : Int) (y : Nat) : binPlan P .neq t (.val (.int .i64 x)) (.val (nI y)) = some (vp (.val (.bool (decide (x ≠ y))))) := i_neq P t x y
theorem i_lssn (x : Int) (y : Nat) : binPlan P .lss t (.val (.int .i64 x)) (.val (nI y)) = some (vp (.val (.bool (decide (x < y))))) := i_lss P t x y
theorem i_leqn (x : Int) (y : Nat) : binPlan P .leq t (.val (.int .i64 x)) (.val (nI y)) = some (vp (.val (.bool (decide (x ≤ y))))) := i_leq P t x y
theorem i_gtrn (x : Int) (y : Nat) : binPlan P .gtr t (.val (.int .i64 x)) (.val (nI y)) = some (vp (.val (.bool (decide ((y : Int) < x))))) := i_gtr P t x y
theorem i_geqn (x : Int) (y : Nat) : binPlan P .geq t (.val (.int .i64 x)) (.val (nI y)) = some (vp (.val (.bool (decide ((y : Int) ≤ x))))) := i_geq P t x y
/- 64-bit words -/
theorem un_negi (x : Int) (h : -9223372036854775808 < x ∧ x ≤ 9223372036854775808) : unPlan .neg (.val (.int .i64 x)) = some (vp (.val (.int .i64 (-x)))) := by
  show some (vp (.val (.int .i64 (IntKind.wrap .i64 (0 - x))))) = _
  rw [wrap_i64 _ (by omega) (by omega), Int.zero_sub]
end
theorem idx_int (n : Nat) (x : Int) (h : 0 ≤ x ∧ x < n) : idx? (.val (.int .i64 x)) n = some x.toNat := by
  simp only [idx?, C.int?]; rw [if_pos h]
theorem mm_min (x y : Nat) : minMax false (.val (nI x)) (.val (nI y)) = some (vp (.val (nI (min x y)))) := by
  simp only [minMax, nI, if_true, Bool.false_eq_true, if_false]
  by_cases h : y < x
  · rw [if_pos (by omega), Nat.min_eq_right (by omega)]; rfl
  · rw [if_neg (by omega), Nat.min_eq_left (by omega)]; rfl
theorem n_subG (P : Program) (t : TypeId) (x y : Nat) (h : x < 9223372036854775808 ∧ y ≤ 9223372036854775808) : binPlan P .sub t (.val (nI x)) (.val (nI y)) = some (vp (.val (.int .i64 ((x : Int) - y)))) := i_sub P t x y (by omega)
/- at joins and at the heads of loops -/
theorem CLe_int {x y : Int} (h : x = y) : CLe (.val (.int .i64 x)) (.val (.int .i64 y)) := h ▸ CLe.refl _
theorem CLe_inI {x : Int} {y : Nat} (h : x = y) : CLe (.val (.int .i64 x)) (.val (nI y)) := h ▸ CLe.refl _
theorem CLe_nIi {x : Nat} {y : Int} (h : (x : Int) = y) : CLe (.val (nI x)) (.val (.int .i64 y)) := h ▸ CLe.refl _
theorem CLe_nI {x y : Nat} (h : x = y) : CLe (.val (nI x)) (.val (nI y)) := h ▸ CLe.refl _
theorem CLe_sln {α : Type} {f : α → List C} {r : Rt} {l : List α} (h : l = []) : CLe (.val (.slice none 0 0)) (sl f r l) := by subst h; exact CLe.nil _
end Go.Sx
namespace Go.Sx
open Go.RowKit
mutual
theorem noRef_zero (k : Nat) : ∀ c : C, noRef 0 c = true → noRef k c = true
  | .top, _ => rfl
  | .val _, _ => rfl
  | .sl _ _ xs, h => by simp only [noRef] at h ⊢; exact noRefs_zero k xs h
  | .sv b _ _, h => by simp [noRef] at h
  | .bp b _, h => by simp [noRef] at h
  | .kp xs, h => by simp only [noRef] at h ⊢; exact noRefs_zero k xs h
  | .agg xs, h => by simp only [noRef] at h ⊢; exact noRefs_zero k xs h
  | .tup xs, h => by simp only [noRef] at h ⊢; exact noRefs_zero k xs h
  | .fn _ xs, h => by simp only [noRef] at h ⊢; exact noRefs_zero k xs h
theorem noRefs_zero (k : Nat) : ∀ l : List C, noRefs 0 l = true → noRefs k l = true
  | [], _ => rfl
  | c :: l, h => by
    simp only [noRefs, Bool.and_eq_true] at h ⊢
    exact ⟨noRef_zero k c h.1, noRefs_zero k l h.2⟩
end
def noRefE (k : Nat) : List (Nat × C) → Bool
  | [] => true
  | x :: e => noRef k x.2 && noRefE k e
theorem noRefE_nil (k : Nat) : noRefE k [] = true := rfl
theorem noRefE_cons (k t : Nat) (c : C) (e : List (Nat × C)) : noRefE k ((t, c) :: e) = (noRef k c && noRefE k e) := rfl
theorem noRefE_at (k : Nat) : ∀ e : List (Nat × C), noRefE k e = true → ∀ t, noRef k (A e t) = true
  | [], _, t => rfl
  | (u, c) :: e, h, t => by
    rw [noRefE_cons, Bool.and_eq_true] at h
    rw [A_cons]
    split
    · exact h.1
    · exact noRefE_at k e h.2 t
def noRefH (k : Nat) : Hp → Bool
  | [] => true
  | none :: h => noRefH k h
  | some cs :: h => noRefs k cs && noRefH k h
theorem noRefH_nil (k : Nat) : noRefH k [] = true := rfl
theorem noRefH_none (k : Nat) (h : Hp) : noRefH k (none :: h) = noRefH k h := rfl
theorem noRefH_some (k : Nat) (cs : List C) (h : Hp) : noRefH k (some cs :: h) = (noRefs k cs && noRefH k h) := rfl
theorem noRefH_at (k : Nat) : ∀ (h : Hp) (b : Nat) (cells : List C), noRefH k h = true → h.at b = some cells → noRefs k cells = true
  | [], b, cells, _, hb => by simp [Hp.at] at hb
  | none :: h, 0, cells, _, hb => by rw [at_cons0] at hb; cases liveC_some hb
  | some cs :: h, 0, cells, hk, hb => by
    rw [noRefH_some, Bool.and_eq_true] at hk
    rw [at_cons0] at hb
    have hb := liveC_some hb
    cases hb; exact hk.1
  | x :: h, b + 1, cells, hk, hb => by
    rw [at_consS] at hb
    refine noRefH_at k h b cells ?_ hb
    cases x with
    | none => exact hk
    | some cs => rw [noRefH_some, Bool.and_eq_true] at hk; exact hk.2
/-- The boxes from k on are dropped. -/
theorem Tr.cutA {cx : Cx} {n : Nat} {Q : Ex → St → Prop} {e : List (Nat × C)} {h : Hp} {c : Code} (hcx : CxOK cx) (k : Nat) (hk : n ≤ k) (he : noRefE k e = true) (hb : noRefH k (h.take k) = true)
    (H : Tr cx n c ⟨A e, h.take k⟩ Q) : Tr cx n c ⟨A e, h⟩ Q :=
  Tr.cut k hk (noRefE_at k e he) (fun g => noRef_zero k _ (hcx.glo g)) (fun b cells hbk hc => noRefH_at k _ b cells hb (by rw [Hp.at_take, if_pos hbk]; exact hc)) H
end Go.Sx
namespace Go.Sx
open Go.RowKit
section
variable (P : Program)
def eqR (op : BinOp) (b : Bool) : Option Plan := match op with
  | .eql => some (vp (.val (.bool b)))
  | .neq => some (vp (.val (.bool (!b))))
  | _ => none
theorem eqR_eql (b : Bool) : eqR .eql b = some (vp (.val (.bool b))) := rfl
end
@[congr] theorem stG_congr {cx : Cx} {apps : List Nat} {dsts : List (Option Nat)} {l : List Oper} {id : Nat} {d : Option Nat} {e : List (Nat × C)} {h : Hp} {fs : List FP} {K : List FP → St → Prop} {ty : TypeId} {pos : String} {aft : Array Edge} {op : Op} {p p' : Option Bool} (hp : p = p') :
    stG cx apps dsts l id d e h fs K ty pos aft op p = stG cx apps dsts l id d e h fs K ty pos aft op p' := by rw [hp]
def wanV (c : C) (w : Bool) : Option Bool := match c with
  | .val (.bool b) => some (b == w)
  | .val (.tuple _) => some false
  | _ => none
def wanQ (d : Option (Option Nat)) (w : Bool) (e : List (Nat × C)) : Option Bool := match d.bind id with
  | none => some false
  | some t => wanV (A e t).noR w
theorem wanted_q (dsts : List (Option Nat)) (j : Nat) (w : Bool) (e : List (Nat × C)) : wantedA dsts (some (j, w)) (A e) = wanQ (dsts[j]?) w e := rfl
theorem wanQ_some (t : Nat) (w : Bool) (e : List (Nat × C)) : wanQ (some (some t)) w e = wanV (A e t).noR w := rfl
theorem wanV_T (b : Bool) : wanV (.val (.bool b)) true = some b := by cases b <;> rfl
theorem wanV_F (b : Bool) : wanV (.val (.bool b)) false = some (!b) := by cases b <;> rfl
theorem wanV_u (w : Bool) : wanV (.val undef) w = some false := rfl
end Go.Sx
namespace Go.Sx
open Go.RowKit
section
variable {cx : Cx} {G : Gh} {w : World} {st : St} {a : Act}
/-- What is asked of the two operations. -/
structure Lit (cx : Cx) (ops ops' : Array Oper) (k : Nat) : Prop where
  dst : ops'.toList.map (·.dst) = ops.toList.map (·.dst)
  app : ops'.toList.filterMap appOf = ops.toList.filterMap appOf
  cnt : ∀ i, cnt ops' i = cnt ops i
  same : ∀ i, i ≠ k + 1 → ops'[i]? = ops[i]?
  two : ∃ p q t n ps ty1 pos1 aft1 ty2 pos2 aft2 e s y z y2 z2, ops[k]? = some ⟨some p, .buildSlice t n ps, ty1, pos1, aft1, none⟩ ∧ ops[k + 1]? = some ⟨some q, .convert t t (.tmp p), ty2, pos2, aft2, none⟩ ∧
    ops'[k + 1]? = some ⟨some q, .move (.tmp p), ty2, pos2, aft2, none⟩ ∧ td cx.P t = some ⟨.slice e, s, y, z⟩ ∧ td cx.P e = some ⟨.int .u8, 1, y2, z2⟩ ∧ cx.gr p = false
end
end Go.Sx
namespace Go.Sx
open Go.RowKit
class Inj {α : Type} (f : α → List C) : Prop where
  inj : ∀ a b, f a = f b → a = b
instance : Inj bC := ⟨fun a b h => by simpa [bC, w8_inj] using h⟩
instance : Inj wC := ⟨fun a b h => by simpa [wC, w32_inj] using h⟩
instance : Inj sC := ⟨fun a b h => by simpa [sC, str_inj] using h⟩
instance : Inj nC := ⟨fun a b h => by simpa [nC, nI_inj] using h⟩
instance : Inj iC := ⟨fun a b h => by simpa [iC] using h⟩
instance : Inj oC := ⟨fun a b h => by simpa [oC] using h⟩
theorem cl_inj {α : Type} {f : α → List C} {s : Nat} [hf : Cel f s] [hi : Inj f] : ∀ {l l' : List α}, cl f l = cl f l' ↔ l = l' := by
  intro l l'
  constructor
  · induction l generalizing l' with
    | nil =>
      intro h
      cases l' with
      | nil => rfl
      | cons a l' =>
        have := congrArg List.length h
        rw [cl_nil, cl_cons, List.length_append, hf.len] at this
        have := hf.pos
        simp at *
        omega
    | cons a l ih =>
      intro h
      cases l' with
      | nil =>
        have := congrArg List.length h
        rw [cl_nil, cl_cons, List.length_append, hf.len] at this
        have := hf.pos
        simp at *
        omega
      | cons b l' =>
        rw [cl_cons, cl_cons] at h
        obtain ⟨h1, h2⟩ := List.append_inj h (by rw [hf.len, hf.len])
        rw [hi.inj _ _ h1, ih h2]
  · rintro rfl; rfl
theorem sl_inj {α : Type} {f : α → List C} {s : Nat} [hf : Cel f s] [hi : Inj f] {r : Rt} {l l' : List α} : sl f r l = sl f r l' ↔ l = l' := by
  constructor
  · intro h
    simp only [sl, C.sl.injEq, true_and] at h
    exact cl_inj.1 h.2
  · rintro rfl; rfl
end Go.Sx
namespace Go.Sx
open Go.RowKit
attribute [go_sem ↓] A_cons GB_true GB_false
attribute [go_sem] callQ_some noRef_val noRef_agg noRef_tup noRef_kp noRef_sl noRefs_cl noRefs_cons noRefs_nil noRefs_app flats_cl flats_app Bool.and_self Bool.and_true on_tmp on_const on_func orw_tmp orw_const tmpq_tmp tmpq_const not_true_eq_false not_false_eq_true noR_val noR_full noR_sv noR_bp noR_kp noR_agg noR_tup noR_slno noR_slfull noR_slown run_nil run_mvt run_mvc run_asg run_pick run_alloc run_box run_build run_buildS run_load run_store run_bin run_un run_mks run_slice run_fa run_ixa run_extr run_len run_app run_min run_call run_mkS run_mkN run_guard bump_move bump_pick bump_load bump_binOp bump_unOp bump_fieldAddr bump_indexAddr bump_call stV_vp stV_val0 stV_valk stV_rd stV_wr stV_xr stV_new stR_some stW_some0 stW_somek stN_some stG_some AN_true dOK_some dOK_none lit_nIo mvP isA_nil isA_cons Bool.or_false Bool.false_or Bool.true_or Bool.or_true beq_self_eq_true onM onP List.map_nil List.map_cons Option.map_none Option.map_some Option.bind_some Option.bind_none thenQ_n n_add n_sub n_rem n_eql n_neq n_lss n_leq n_gtr n_geq un_not int_cast ne_eq wanted_q wanQ_some wanV_T wanV_F wanV_u eqR_eql eq_self decide_true decide_false Bool.not_true Bool.not_false i_add i_addn i_sub i_mul i_rem i_remn i_eql i_neq i_lss i_leq i_gtr i_geq i_eqln i_neqn i_lssn i_leqn i_gtrn i_geqn un_negi idx_int mm_min load_bp ldB_int ldB_sl ldB_slo ldB_struct load_kp ldK_int ldK_sl store_val store_agg store_sl stS_one stB_many cells_nI cells_int cells_agg cl_noR box_cs boxQ_some alloc_z alQ_true allOne_nil allOne_cons zc_nil zc_cons one_nI one_slice build_struct bldS_true plc_nil plc_cons plQ_some layS_nil layS_cons layQ_some layW_some idx_nI bound_nI bound_none ixa_td ixS_some ixa_sv ixa_slT ixL_some len_td len_sl Nat.mul_one Nat.zero_add Nat.add_zero slice_td sl2_nI slS_some slP_slT slH_some app_td app_ss apQ_own pick_tf pick_ff extractP callP shares List.append_nil share_nI share_val share_nil share_agg share_slno share_slfull List.map_append gt_cons0 gt_consS bs_slice Nat.sub_zero Nat.zero_mul List.drop_zero List.drop_succ_cons List.take_succ_cons List.take_zero at_cons0 at_consS rdc_cons0 rdc_consS rdc_drop rdc_cl wrc_i List.set_cons_zero List.set_cons_succ List.getElem?_cons_zero List.getElem?_cons_succ List.length_nil List.length_cons List.nil_append List.cons_append Nat.add_sub_cancel_left List.length_set List.length_replicate gt_def
end Go.Sx
