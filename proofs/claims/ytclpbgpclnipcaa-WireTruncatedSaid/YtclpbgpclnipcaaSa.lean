/-
  Shadow values: Go values without addresses, and when a value of the model reads as one. Generic in the program. And what follows.
-/
import Derived.WalkKit
import Derived.Orders
import Derived.Deep.MidRow
import Derived.Deep.Draws
import Derived.Scope
import Derived.Laws.IdiomStrings
set_option linter.unusedSimpArgs false
set_option linter.unusedVariables false
namespace Go.Sx
open Go.RowKit

/-- Places that may own the unused tail of a row: (0, slot, 0), (1, box, offset), (2, 0, 0) a result. -/
abbrev Place := Nat × Nat × Nat

inductive Rt where
  | no
  | full
  | own (s : Nat)

/-- Shadow values. -/
inductive C where
  | top
  | val (v : Value)
  | sl (r : Rt) (n : Nat) (xs : List C)
  | sv (b off n : Nat)
  | bp (b off : Nat)
  | kp (xs : List C)
  | agg (xs : List C)
  | tup (xs : List C)
  | fn (f : Nat) (caps : List C)

/-- Ghost state: cells that nobody writes any more, the blocks of the boxes, the owners of tails. -/
structure Gh where
  K : Nat → Nat → Option Value
  μ : Nat → Option Nat
  T : Nat → Option Place

mutual
def Rep (G : Gh) : C → Value → Prop
  | .top, _ => True
  | .val u, v => v = u
  | .sl r n xs, v => ∃ a cap, v = .slice a n cap ∧ n ≤ cap ∧ cap ≤ maxLen ∧ (r = .full → cap = n) ∧
      (xs = [] ∨ ∃ blk off, a = some ⟨blk, off, none⟩ ∧ RepK G blk off xs)
  | .sv b off n, v => ∃ a cap blk, v = .slice a n cap ∧ n ≤ cap ∧ cap ≤ maxLen ∧ G.μ b = some blk ∧ (n ≠ 0 → a = some ⟨blk, off, none⟩)
  | .bp b off, v => ∃ blk, G.μ b = some blk ∧ v = .pointer (some ⟨blk, off, none⟩)
  | .kp xs, v => ∃ blk off, v = .pointer (some ⟨blk, off, none⟩) ∧ RepK G blk off xs
  | .agg xs, v => ∃ vs, v = .agg vs ∧ RepL G xs vs.toList ∧ ∀ u ∈ vs.toList, u.oneCell' = true
  | .tup xs, v => ∃ vs, v = .tuple vs ∧ RepL G xs vs.toList
  | .fn f caps, v => ∃ vs, v = .func (.func f) #[] vs ∧ RepL G caps vs.toList
def RepL (G : Gh) : List C → List Value → Prop
  | [], vs => vs = []
  | x :: xs, vs => ∃ v vs', vs = v :: vs' ∧ Rep G x v ∧ RepL G xs vs'
def RepK (G : Gh) (blk off : Nat) : List C → Prop
  | [] => True
  | x :: xs => (∃ u, G.K blk off = some u ∧ u.oneCell' = true ∧ Rep G x u) ∧ RepK G blk (off + 1) xs
end

/-- More is known. -/
structure Gh.Le (G G' : Gh) : Prop where
  K : ∀ b o u, G.K b o = some u → G'.K b o = some u
  μ : ∀ b k, G.μ b = some k → G'.μ b = some k

theorem Gh.Le.refl (G : Gh) : G.Le G := ⟨fun _ _ _ h => h, fun _ _ h => h⟩
theorem Gh.Le.trans {A B D : Gh} (h : A.Le B) (k : B.Le D) : A.Le D := ⟨fun b o u x => k.K b o u (h.K b o u x), fun b o x => k.μ b o (h.μ b o x)⟩

mutual
theorem Rep.mono {G G' : Gh} (h : G.Le G') : ∀ (c : C) (v : Value), Rep G c v → Rep G' c v
  | .top, _, _ => by simp [Rep]
  | .val u, v, r => by simpa [Rep] using r
  | .sl r n xs, v, x => by
    simp only [Rep] at x ⊢
    obtain ⟨a, cap, h1, h2, h3, h4, h5⟩ := x
    refine ⟨a, cap, h1, h2, h3, h4, ?_⟩
    rcases h5 with h5 | ⟨blk, off, ha, hk⟩
    · exact .inl h5
    · exact .inr ⟨blk, off, ha, RepK.mono h xs blk off hk⟩
  | .sv b off n, v, x => by
    simp only [Rep] at x ⊢
    obtain ⟨a, cap, blk, h1, h2, h3, h4, h5⟩ := x
    exact ⟨a, cap, blk, h1, h2, h3, h.μ _ _ h4, h5⟩
  | .bp b off, v, x => by
    simp only [Rep] at x ⊢
    obtain ⟨blk, h1, h2⟩ := x
    exact ⟨blk, h.μ _ _ h1, h2⟩
  | .kp xs, v, x => by
    simp only [Rep] at x ⊢
    obtain ⟨blk, off, h1, h2⟩ := x
    exact ⟨blk, off, h1, RepK.mono h xs blk off h2⟩
  | .agg xs, v, x => by
    simp only [Rep] at x ⊢
    obtain ⟨vs, h1, h2, h3⟩ := x
    exact ⟨vs, h1, RepL.mono h xs _ h2, h3⟩
  | .tup xs, v, x => by
    simp only [Rep] at x ⊢
    obtain ⟨vs, h1, h2⟩ := x
    exact ⟨vs, h1, RepL.mono h xs _ h2⟩
  | .fn f xs, v, x => by
    simp only [Rep] at x ⊢
    obtain ⟨vs, h1, h2⟩ := x
    exact ⟨vs, h1, RepL.mono h xs _ h2⟩
theorem RepL.mono {G G' : Gh} (h : G.Le G') : ∀ (xs : List C) (vs : List Value), RepL G xs vs → RepL G' xs vs
  | [], vs, r => by simpa [RepL] using r
  | x :: xs, vs, r => by
    simp only [RepL] at r ⊢
    obtain ⟨v, vs', h1, h2, h3⟩ := r
    exact ⟨v, vs', h1, Rep.mono h x v h2, RepL.mono h xs vs' h3⟩
theorem RepK.mono {G G' : Gh} (h : G.Le G') : ∀ (xs : List C) (blk off : Nat), RepK G blk off xs → RepK G' blk off xs
  | [], _, _, _ => by simp [RepK]
  | x :: xs, blk, off, r => by
    simp only [RepK] at r ⊢
    obtain ⟨⟨u, h1, h2, h3⟩, h4⟩ := r
    exact ⟨⟨u, h.K _ _ _ h1, h2, Rep.mono h x u h3⟩, RepK.mono h xs blk (off + 1) h4⟩
end

/-- No right, or only that which a copy keeps. -/
def C.noR : C → C
  | .sl (.own _) n xs => .sl .no n xs
  | c => c

theorem Rep.noR {G : Gh} {c : C} {v : Value} (h : Rep G c v) : Rep G c.noR v := by
  unfold C.noR
  split
  · simp only [Rep] at h ⊢
    obtain ⟨a, cap, h1, h2, h3, _, h5⟩ := h
    exact ⟨a, cap, h1, h2, h3, by simp, h5⟩
  · exact h

theorem RepL.length {G : Gh} : ∀ {xs : List C} {vs : List Value}, RepL G xs vs → xs.length = vs.length
  | [], vs, h => by simp only [RepL] at h; subst h; rfl
  | x :: xs, vs, h => by
    simp only [RepL] at h
    obtain ⟨v, vs', rfl, _, h3⟩ := h
    simp [RepL.length h3]

theorem RepL.get {G : Gh} : ∀ {xs : List C} {vs : List Value}, RepL G xs vs → ∀ (i : Nat) (x : C), xs[i]? = some x → ∃ v, vs[i]? = some v ∧ Rep G x v
  | [], vs, _, i, x, hx => by simp at hx
  | y :: xs, vs, h, i, x, hx => by
    simp only [RepL] at h
    obtain ⟨v, vs', rfl, h2, h3⟩ := h
    cases i with
    | zero => simp at hx; subst hx; exact ⟨v, by simp, h2⟩
    | succ i => simpa using RepL.get h3 i x (by simpa using hx)

theorem RepL.of_get {G : Gh} : ∀ {xs : List C} {vs : List Value}, xs.length = vs.length →
    (∀ (i : Nat) (x : C) (v : Value), xs[i]? = some x → vs[i]? = some v → Rep G x v) → RepL G xs vs
  | [], vs, h, _ => by cases vs with | nil => simp [RepL] | cons a b => simp at h
  | y :: xs, vs, h, H => by
    cases vs with
    | nil => simp at h
    | cons v vs =>
      simp only [RepL]
      exact ⟨v, vs, rfl, H 0 y v (by simp) (by simp), RepL.of_get (by simpa using h) fun i x v hx hv => H (i + 1) x v (by simpa using hx) (by simpa using hv)⟩

theorem RepK.get {G : Gh} {blk : Nat} : ∀ {xs : List C} {off : Nat}, RepK G blk off xs → ∀ (i : Nat) (x : C), xs[i]? = some x →
    ∃ u, G.K blk (off + i) = some u ∧ u.oneCell' = true ∧ Rep G x u
  | [], off, _, i, x, hx => by simp at hx
  | y :: xs, off, h, i, x, hx => by
    simp only [RepK] at h
    cases i with
    | zero => simp at hx; subst hx; simpa using h.1
    | succ i =>
      have := RepK.get h.2 i x (by simpa using hx)
      simpa [Nat.add_assoc, Nat.add_comm 1 i] using this

theorem RepK.of_get {G : Gh} {blk : Nat} : ∀ {xs : List C} {off : Nat}, (∀ (i : Nat) (x : C), xs[i]? = some x →
    ∃ u, G.K blk (off + i) = some u ∧ u.oneCell' = true ∧ Rep G x u) → RepK G blk off xs
  | [], off, _ => by simp [RepK]
  | y :: xs, off, h => by
    simp only [RepK]
    exact ⟨by simpa using h 0 y (by simp), RepK.of_get fun i x hx => by simpa [Nat.add_assoc, Nat.add_comm 1 i] using h (i + 1) x (by simpa using hx)⟩

theorem RepK.drop {G : Gh} {blk off : Nat} {xs : List C} (h : RepK G blk off xs) (k : Nat) : RepK G blk (off + k) (xs.drop k) :=
  RepK.of_get fun i x hx => by
    rw [List.getElem?_drop] at hx
    simpa [Nat.add_assoc] using h.get (k + i) x hx

theorem RepK.take {G : Gh} {blk off : Nat} {xs : List C} (h : RepK G blk off xs) (k : Nat) : RepK G blk off (xs.take k) :=
  RepK.of_get fun i x hx => by
    rw [List.getElem?_take] at hx
    split at hx
    · exact h.get i x hx
    · cases hx

theorem RepK.append {G : Gh} {blk off : Nat} {xs ys : List C} (h : RepK G blk off xs) (k : RepK G blk (off + xs.length) ys) : RepK G blk off (xs ++ ys) :=
  RepK.of_get fun i x hx => by
    rw [List.getElem?_append] at hx
    split at hx
    · exact h.get i x hx
    · have := k.get _ x hx
      rwa [show off + xs.length + (i - xs.length) = off + i from by omega] at this

/-- The committed cells of a row, as a list of values. -/
theorem RepK.values {G : Gh} {blk : Nat} : ∀ {xs : List C} {off : Nat}, RepK G blk off xs →
    ∃ vs : List Value, vs.length = xs.length ∧ RepL G xs vs ∧ (∀ (j : Nat) (u : Value), vs[j]? = some u → G.K blk (off + j) = some u) ∧ ∀ u ∈ vs, u.oneCell' = true
  | [], off, _ => ⟨[], rfl, by simp [RepL], by simp, by simp⟩
  | x :: xs, off, h => by
    simp only [RepK] at h
    obtain ⟨⟨u, h1, h2, h3⟩, h4⟩ := h
    obtain ⟨vs, a1, a2, a3, a4⟩ := RepK.values h4
    refine ⟨u :: vs, by simp [a1], by simp only [RepL]; exact ⟨u, vs, rfl, h3, a2⟩, ?_, ?_⟩
    · intro j w hj
      cases j with
      | zero => simp at hj; subst hj; simpa using h1
      | succ j => simpa [Nat.add_assoc, Nat.add_comm 1 j] using a3 j w (by simpa using hj)
    · intro w hw
      rcases List.mem_cons.1 hw with rfl | hw
      · exact h2
      · exact a4 w hw

/-- Who may append in place. -/
def OwnRow (G : Gh) (w : World) (p : Place) (v : Value) (s n : Nat) : Prop :=
  (∃ a, v = .slice a n n) ∨
  ∃ g cap cur e, v = .slice (some ⟨g, 0, none⟩) n cap ∧ G.T g = some p ∧ w.heap[g]? = some (.cells cur e (0, 0)) ∧ cur.size = cap * s ∧
    (∀ o, n * s ≤ o → G.K g o = none) ∧ (∀ b, G.μ b ≠ some g)

/-- The boxes. -/
abbrev Hp := List (Option (List C))
def Hp.at (h : Hp) (b : Nat) : Option (List C) := (h[b]?).bind id

structure WorldOK (G : Gh) (h : Hp) (w : World) : Prop where
  known : ∀ blk off u, G.K blk off = some u → w.cell? ⟨blk, off, none⟩ = some u
  box : ∀ b cells, h.at b = some cells → ∃ blk cs e, G.μ b = some blk ∧ w.heap[blk]? = some (.cells cs e (0, 0)) ∧ RepL G cells cs.toList ∧ ∀ v ∈ cs.toList, v.oneCell' = true
  dom : ∀ b blk, G.μ b = some blk → ∃ cells, h.at b = some cells
  inj : ∀ b b' blk, G.μ b = some blk → G.μ b' = some blk → b = b'
  sep : ∀ b blk, G.μ b = some blk → (∀ o, G.K blk o = none) ∧ G.T blk = none
  tlt : ∀ g p, G.T g = some p → g < w.heap.size
  own : ∀ b cells off s n xs blk v, h.at b = some cells → cells[off]? = some (.sl (.own s) n xs) → G.μ b = some blk → w.cell? ⟨blk, off, none⟩ = some v → OwnRow G w (1, b, off) v s n

/-- What a call, or a piece of code, may have done to the world. -/
structure Frm (G₀ : Gh) (w₀ : World) (G : Gh) (w : World) : Prop where
  os : w.os = w₀.os
  tape : w.tape = w₀.tape
  output : w.output = w₀.output
  size : w₀.heap.size ≤ w.heap.size
  le : G₀.Le G
  old : ∀ g, g < w₀.heap.size → G₀.T g = none → (∀ b, G₀.μ b ≠ some g) →
    w.heap[g]? = w₀.heap[g]? ∧ G.T g = none ∧ (∀ b, G.μ b ≠ some g) ∧ ∀ o, G.K g o = G₀.K g o

theorem Frm.refl (G : Gh) (w : World) : Frm G w G w := ⟨rfl, rfl, rfl, Nat.le_refl _, .refl G, fun _ _ h1 h2 => ⟨rfl, h1, h2, fun _ => rfl⟩⟩
theorem Frm.trans {A B D : Gh} {a b d : World} (h : Frm A a B b) (k : Frm B b D d) : Frm A a D d :=
  ⟨k.os.trans h.os, k.tape.trans h.tape, k.output.trans h.output, Nat.le_trans h.size k.size, h.le.trans k.le, fun g hg ht hm => by
    obtain ⟨a1, a2, a3, a4⟩ := h.old g hg ht hm
    obtain ⟨b1, b2, b3, b4⟩ := k.old g (Nat.lt_of_lt_of_le hg h.size) a2 a3
    exact ⟨b1.trans a1, b2, b3, fun o => (b4 o).trans (a4 o)⟩⟩

end Go.Sx

namespace Go.Sx
open Go.RowKit

structure TD where
  u : TypeDesc
  size : Nat
  bytes : Nat
  zero : List Value

/-- A type's row. -/
def td (P : Program) (t : TypeId) : Option TD :=
  match P.underlying t, P.info? t with
  | some u, some i => match i.zero with
    | some z => some ⟨u, i.size, i.bytes, z.cells.toList⟩
    | none => none
  | _, _ => none

def TD.isAgg (d : TD) : Bool := match d.u with | .struct _ | .array _ _ => true | _ => false

/-- What a shadow run leans on: the program's package-level variables, the functions that compute alone, those that use boxes. -/
structure Cx where
  P : Program
  N : Nat
  gl : Nat → C
  pu : Nat → List C → Option C
  hp : Nat → List C → Hp → Option (C × Hp)

structure St where
  env : Nat → C
  h : Hp

def C.val? : C → Option Value
  | .val v => some v
  | _ => none
def C.int? : C → Option (IntKind × Int)
  | .val (.int k n) => some (k, n)
  | _ => none
/-- A slice's length and cells. -/
def C.sl? : C → Option (Nat × List C)
  | .sl _ n xs => some (n, xs)
  | .val (.slice none 0 0) => some (0, [])
  | _ => none
/-- A nil slice handed on reads as an empty one. -/
def C.share : C → C
  | .val (.slice none 0 0) => .sl .no 0 []
  | .sl .full n xs => .sl .no n xs
  | c => c.noR
/-- The cells of a value. -/
def C.cells? : C → Option (List C)
  | .agg xs => some (xs.map C.noR)
  | .val (.agg vs) => if vs.toList.all (·.oneCell') then some (vs.toList.map .val) else none
  | .val v => if v.oneCell' then some [.val v] else none
  | .sl r n xs => some [(C.sl r n xs).noR]
  | .sv b o n => some [.sv b o n]
  | .bp b o => some [.bp b o]
  | .kp xs => some [.kp xs]
  | .fn f cs => some [.fn f cs]
  | .top | .tup _ => none

def splice (xs : List C) (o : Nat) (ys : List C) : List C := xs.take o ++ ys ++ xs.drop (o + ys.length)

/-- Integer and string operators. -/
def sbin (op : BinOp) : Value → Value → Option Value
  | .int k a, .int k' b =>
    match op with
    | .shl => if b < 0 then none else some (.int k (k.wrap (a * 2 ^ (min b.toNat k.bits))))
    | .shr => if b < 0 then none else some (.int k (a.fdiv (2 ^ (min b.toNat k.bits))))
    | _ => if k ≠ k' then none else
      match op with
      | .add => some (.int k (k.wrap (a + b)))
      | .sub => some (.int k (k.wrap (a - b)))
      | .mul => some (.int k (k.wrap (a * b)))
      | .quo => if b = 0 then none else some (.int k (k.wrap (a.tdiv b)))
      | .rem => if b = 0 then none else some (.int k (a.tmod b))
      | .and => some (.int k (k.wrap (BitVec.ofInt k.bits a &&& BitVec.ofInt k.bits b).toNat))
      | .or => some (.int k (k.wrap (BitVec.ofInt k.bits a ||| BitVec.ofInt k.bits b).toNat))
      | .xor => some (.int k (k.wrap (BitVec.ofInt k.bits a ^^^ BitVec.ofInt k.bits b).toNat))
      | .andNot => some (.int k (k.wrap (BitVec.ofInt k.bits a &&& ~~~BitVec.ofInt k.bits b).toNat))
      | .eql => some (.bool (a == b))
      | .neq => some (.bool (a != b))
      | .lss => some (.bool (decide (a < b)))
      | .leq => some (.bool (decide (a ≤ b)))
      | .gtr => some (.bool (decide (a > b)))
      | .geq => some (.bool (decide (a ≥ b)))
      | _ => none
  | .string a, .string b =>
    match op with
    | .add => if a.size + b.size ≤ 9223372036854775807 then some (.string (a ++ b)) else none
    | .eql => some (.bool (a.toList == b.toList))
    | .neq => some (.bool (!(a.toList == b.toList)))
    | .lss => some (.bool (Op.bytesLess a.toList b.toList))
    | .leq => some (.bool (Op.bytesLess a.toList b.toList || a.toList == b.toList))
    | .gtr => some (.bool (!(Op.bytesLess a.toList b.toList || a.toList == b.toList)))
    | .geq => some (.bool (!Op.bytesLess a.toList b.toList))
    | _ => none
  | .bool a, .bool b =>
    match op with
    | .eql => some (.bool (a == b))
    | .neq => some (.bool (!(a == b)))
    | _ => none
  | _, _ => none

/-- Integers of cells, one of another. -/
def ints? : List C → Option (List Int)
  | [] => some []
  | .val (.int _ n) :: r => (ints? r).map (n :: ·)
  | _ :: _ => none
def u8s? : List C → Option (List Int)
  | [] => some []
  | .val (.int .u8 n) :: r => (u8s? r).map (n :: ·)
  | _ :: _ => none

def byteC (b : UInt8) : C := .val (.int .u8 b.toNat)
def strOf (ns : List Int) : ByteArray := ⟨(ns.map fun n => UInt8.ofNat n.toNat).toArray⟩

inductive Plan where
  | val (c : C) (kill : Option Nat)
  | rd (b : Nat) (f : List C → Option C)
  | wr (b : Nat) (f : List C → Option (List C × C)) (kill : Option Nat)
  | xr (b off : Nat)
  | new (cells : List C) (g : Nat → C)
  | call (f : Nat) (args : List C)

def Plan.pure (c : C) : Plan := .val c none

def Cx.ev (cx : Cx) (env : Nat → C) : Operand → C
  | .tmp t => env t
  | .const v => .val v
  | .global g => (cx.gl g).noR
  | .func f => .fn f []

def Cx.evn (cx : Cx) (env : Nat → C) (x : Operand) : C := (cx.ev env x).noR

def tmp? : Operand → Option Nat
  | .tmp t => some t
  | _ => none

/-- The first operands of the appends of a region. -/
def appOf (o : Oper) : Option Nat := match o.op with
  | .call { callee := .builtin .append, args, .. } => (match (args[0]? : Option Operand) with | some (Operand.tmp u) => some u | _ => none)
  | .assign (.tmp u) => some (u + 1000000)
  | _ => none

/-- Is a slot an append's first operand here? -/
def isApp (ops : Array Oper) (d : Option Nat) : Bool :=
  match d with
  | none => false
  | some t => (ops.toList.filterMap appOf).contains t

/-- Does a slot hand its right on: to an append, or to a variable? -/
def isMv (ops : Array Oper) (d : Option Nat) : Bool := isApp ops d || isApp ops (d.map (· + 1000000))

/-- n cells from an offset on, as a value of a type. -/
def getAt (d : TD) (cells : List C) (off : Nat) : Option C :=
  if d.isAgg then (if off + d.size ≤ cells.length then some (.agg (((cells.drop off).take d.size).map C.noR)) else none)
  else (cells[off]?).map C.noR

def idx? (c : C) (n : Nat) : Option Nat :=
  match c.int? with
  | some (_, i) => if 0 ≤ i ∧ i < n then some i.toNat else none
  | none => none

def bound? (c : Option C) (dflt most : Nat) : Option Nat :=
  match c with
  | none => some dflt
  | some c => match c.int? with
    | some (_, i) => if 0 ≤ i ∧ i ≤ most then some i.toNat else none
    | none => none

/-- Where the parts of a type lie: offset and size. -/
def places (P : Program) (u : TypeDesc) : Option (Nat → Option (Nat × Nat)) :=
  match u with
  | .struct fields => (fields.toList.mapM fun f => (td P f.type).map fun d => (f.offset, d.size)).map fun pl i => pl[i]?
  | .array _ e => (td P e).map fun d i => some (i * d.size, d.size)
  | _ => none

/-- Parts laid into zero cells. -/
def lay (pl : Nat → Option (Nat × Nat)) (cells : List C) : List (Nat × C) → Option (List C)
  | [] => some cells
  | (i, c) :: rest => match pl i, c.cells? with
    | some (off, size), some cs => if cs.length = size ∧ off + size ≤ cells.length then lay pl (splice cells off cs) rest else none
    | _, _ => none

def repZero (z : List Value) : Nat → List C
  | 0 => []
  | n + 1 => z.map .val ++ repZero z n

/-- The cells that an append, a copy or a conversion takes from a value that lies in no box. -/
def src? (c : C) : Option (Nat × List C) :=
  match c with
  | .val (.string s) => some (s.size, s.data.toList.map byteC)
  | c => c.sl?

def convPlan (P : Program) (src dst : TypeId) (c : C) : Option Plan :=
  match td P src, td P dst with
  | some ds, some dd =>
    match ds.u, dd.u, c with
    | _, .int k, .val (.int _ n) => some (.pure (.val (.int k (k.wrap n))))
    | _, .string, .val (.string s) => some (.pure (.val (.string s)))
    | .string, .slice e, .val (.string s) => match td P e with
      | some de => (match de.u with
        | .int .u8 => if s.size ≤ 140737488355328 then some (.pure (.sl .no s.size (s.data.toList.map byteC))) else none
        | _ => none)
      | none => none
    | .slice e, .string, c => match td P e with
      | some de => (match de.u with
        | .int .u8 => (match c with
          | .sv b off n => some (.rd b fun cells => if off + n ≤ cells.length then (u8s? ((cells.drop off).take n)).map fun ns => .val (.string (strOf ns)) else none)
          | c => match c.sl? with
            | some (n, xs) => if xs.length = n then (u8s? xs).map fun ns => .pure (.val (.string (strOf ns))) else none
            | none => none)
        | _ => none)
      | none => none
    | _, _, _ => none
  | _, _ => none

def slicePlan (P : Program) (t : TypeId) (c : C) (lo hi mx : Option C) : Option Plan :=
  match td P t with
  | none => none
  | some d =>
    match d.u, c with
    | .string, .val (.string s) =>
      if mx.isSome then none else
      match bound? hi s.size s.size with
      | some h => (match bound? lo 0 h with
        | some l => some (.pure (.val (.string (s.extract l h))))
        | none => none)
      | none => none
    | .slice e, .sv b off n => match td P e with
      | some de =>
        if mx.isSome then none else
        (match bound? hi n n with
        | some h => (match bound? lo 0 h with
          | some l => some (.pure (.sv b (off + l * de.size) (h - l)))
          | none => none)
        | none => none)
      | none => none
    | .slice e, c => match td P e, c.sl? with
      | some de, some (n, xs) =>
        if xs.length = n * de.size ∧ (mx.isNone ∨ hi.isSome) then
          (match bound? mx n n with
          | some m => (match bound? hi n (if mx.isSome then m else n) with
            | some h => (match bound? lo 0 h with
              | some l => some (.pure (.sl (if mx.isSome ∧ m = h then .full else .no) (h - l) ((xs.drop (l * de.size)).take ((h - l) * de.size))))
              | none => none)
            | none => none)
          | none => none)
        else none
      | _, _ => none
    | .array n e, .bp b off => match td P e with
      | some de =>
        if mx.isSome ∨ 65536 < n then none else
        (match bound? hi n n with
        | some h => (match bound? lo 0 h with
          | some l => some (.pure (.sv b (off + l * de.size) (h - l)))
          | none => none)
        | none => none)
      | none => none
    | .array n e, .kp xs => match td P e with
      | some de =>
        if mx.isSome ∨ 65536 < n ∨ xs.length < n * de.size then none else
        (match bound? hi n n with
        | some h => (match bound? lo 0 h with
          | some l => some (.pure (.sl .no (h - l) ((xs.drop (l * de.size)).take ((h - l) * de.size))))
          | none => none)
        | none => none)
      | none => none
    | _, _ => none

def indexAddrPlan (P : Program) (t : TypeId) (c i : C) : Option Plan :=
  match td P t with
  | none => none
  | some d =>
    match d.u, c with
    | .array n e, .bp b off => match td P e, idx? i n with
      | some de, some k => some (.pure (.bp b (off + k * de.size)))
      | _, _ => none
    | .array n e, .kp xs => match td P e, idx? i n with
      | some de, some k => if n * de.size ≤ xs.length then some (.pure (.kp (xs.drop (k * de.size)))) else none
      | _, _ => none
    | .slice e, .sv b off n => match td P e, idx? i n with
      | some de, some k => some (.pure (.bp b (off + k * de.size)))
      | _, _ => none
    | .slice e, .sl _ n xs => match td P e, idx? i n with
      | some de, some k => if xs.length = n * de.size ∧ xs ≠ [] then some (.pure (.kp (xs.drop (k * de.size)))) else none
      | _, _ => none
    | _, _ => none

/-- The cells of an aggregate value. -/
def C.agg? : C → Option (List C)
  | .agg xs => some xs
  | .val (.agg vs) => if vs.toList.all (·.oneCell') then some (vs.toList.map .val) else none
  | _ => none

def indexPlan (P : Program) (t : TypeId) (c i : C) : Option Plan :=
  match td P t with
  | none => none
  | some d =>
    match d.u, c with
    | .string, .val (.string s) => match idx? i s.size with
      | some k => (s.data[k]?).map fun b => .pure (byteC b)
      | none => none
    | .array n e, c => match td P e, idx? i n, c.agg? with
      | some de, some k, some xs => (getAt de xs (k * de.size)).map .pure
      | _, _, _ => none
    | _, _ => none

def fieldPlan (P : Program) (t : TypeId) (c : C) (f : Nat) : Option Plan :=
  match td P t with
  | none => none
  | some d =>
    match d.u with
    | .struct fields => match fields[f]?, c.agg? with
      | some fd, some xs => (match td P fd.type with
        | some de => (getAt de xs fd.offset).map .pure
        | none => none)
      | _, _ => none
    | _ => none

def fieldAddrPlan (P : Program) (t : TypeId) (c : C) (f : Nat) : Option Plan :=
  match td P t with
  | none => none
  | some d =>
    match d.u with
    | .struct fields => match fields[f]? with
      | some fd => (match td P fd.type with
        | some de => if de.size = 0 then none else
          (match c with
          | .bp b off => some (.pure (.bp b (off + fd.offset)))
          | .kp xs => if fd.offset ≤ xs.length then some (.pure (.kp (xs.drop fd.offset))) else none
          | _ => none)
        | none => none)
      | none => none
    | _ => none

def loadPlan (P : Program) (own : Bool) (t : TypeId) (c : C) : Option Plan :=
  match td P t with
  | none => none
  | some d =>
    match c with
    | .bp b off =>
      if own ∧ d.isAgg = false then some (.xr b off)
      else some (.rd b fun cells => getAt d cells off)
    | .kp xs => (getAt d xs off0).map .pure
    | _ => none
where off0 := 0

def storePlan (P : Program) (t : TypeId) (c : C) (x : C) (xt : Option Nat) : Option Plan :=
  match td P t with
  | none => none
  | some d =>
    match c with
    | .bp b off => match x with
      | .sl r n xs => if d.size = 1 then some (.wr b (fun cells => if off < cells.length then some (cells.set off (.sl r n xs), .val undef) else none) xt) else none
      | x => match x.cells? with
        | some cs => if cs.length = d.size then some (.wr b (fun cells => if off + cs.length ≤ cells.length then some (splice cells off cs, .val undef) else none) none) else none
        | none => none
    | _ => none

def notInt : TypeDesc → Bool
  | .slice _ | .string => true
  | _ => false
theorem notInt_spec {u : TypeDesc} (h : notInt u = true) : (∃ e, u = .slice e) ∨ u = .string := by
  cases u <;> simp [notInt] at h ⊢

def appendPlan (P : Program) (t t2 : TypeId) (x y : C) (xt : Option Nat) : Option Plan :=
  match td P t, td P t2 with
  | none, _ => none
  | _, none => none
  | some d, some d2 =>
    if notInt d2.u = false then none else
    match d.u with
    | .slice e => match td P e with
      | none => none
      | some de =>
        let fin (n : Nat) (xs : List C) (m : Nat) (ys : List C) : Option C :=
          if xs.length = n * de.size ∧ ys.length = m * de.size ∧ 0 < de.size ∧ de.zero.length = de.size ∧ (n + m) * de.bytes ≤ 140737488355328 ∧ n + m ≤ 9223372036854775807 then some (.sl (.own de.size) (n + m) (xs ++ ys)) else none
        let start : Option (Nat × List C × Option Nat) := match x with
          | .val (.slice none 0 0) => some (0, [], none)
          | .sl .full n xs => some (n, xs, none)
          | .sl (.own s) n xs => if s = de.size then some (n, xs, xt) else none
          | _ => none
        match start with
        | none => none
        | some (n, xs, k) =>
          match y with
          | .sv b off m => if k.isSome then some (.wr b (fun cells => (if off + m * de.size ≤ cells.length then fin n xs m (((cells.drop off).take (m * de.size)).map C.noR) else none).map fun c => (cells, c)) k)
            else some (.rd b fun cells => if off + m * de.size ≤ cells.length then fin n xs m (((cells.drop off).take (m * de.size)).map C.noR) else none)
          | y => match src? y with
            | some (m, ys) => (fin n xs m ys).map fun c => .val c k
            | none => none
    | _ => none

def copyPlan (P : Program) (t : TypeId) (x y : C) : Option Plan :=
  match td P t with
  | none => none
  | some d =>
    match d.u with
    | .slice e => match td P e with
      | none => none
      | some de => match x, src? y with
        | .sv b off n, some (m, ys) =>
          if ys.length = m * de.size ∧ 0 < n then some (.wr b (fun cells => if off + n * de.size ≤ cells.length then some (splice cells off ((ys.take (min m n * de.size)).map C.noR), .val (.int .i64 (min m n : Nat))) else none) none) else none
        | _, _ => none
    | _ => none

def lenPlan (P : Program) (t : TypeId) (x : C) : Option Plan :=
  match td P t with
  | none => none
  | some d =>
    match d.u, x with
    | .string, .val (.string s) => some (.pure (.val (.int .i64 s.size)))
    | .array n _, _ => some (.pure (.val (.int .i64 n)))
    | .slice _, .sv _ _ n => some (.pure (.val (.int .i64 n)))
    | .slice _, x => x.sl?.map fun r => .pure (.val (.int .i64 r.1))
    | _, _ => none

def allInts (xs : List C) : Bool := xs.all fun | .val (.int ..) => true | _ => false
def intsEq : List C → List C → Bool
  | .val (.int _ a) :: xs, .val (.int _ b) :: ys => a == b && intsEq xs ys
  | [], [] => true
  | _, _ => false

/-- Parts of arrays, and of structs, compared in order. -/
def eqEs (f : C → C → Option Bool) (de : TD) (xs ys : List C) : List Nat → Option Bool
  | [] => some true
  | i :: l => match getAt de xs (i * de.size), getAt de ys (i * de.size) with
    | some a, some b => (match f a b with
      | some true => eqEs f de xs ys l
      | r => r)
    | _, _ => none
def eqFs (P : Program) (f : TypeId → C → C → Option Bool) (xs ys : List C) : List Field → Option Bool
  | [] => some true
  | fd :: l => if fd.name ≠ "_" then (match td P fd.type with
    | some de => (match getAt de xs fd.offset, getAt de ys fd.offset with
      | some a, some b => (match f fd.type a b with
        | some true => eqFs P f xs ys l
        | r => r)
      | _, _ => none)
    | none => none) else eqFs P f xs ys l

def eqC (P : Program) : Nat → TypeId → C → C → Option Bool
  | 0, _, _, _ => none
  | d + 1, t, x, y => match td P t with
    | none => none
    | some dt => match dt.u with
      | .bool => (match x, y with
        | .val (.bool a), .val (.bool b) => some (a == b)
        | _, _ => none)
      | .int _ => (match x, y with
        | .val (.int k a), .val (.int k' b) => if k = k' then some (a == b) else none
        | _, _ => none)
      | .string => (match x, y with
        | .val (.string a), .val (.string b) => some (a.toList == b.toList)
        | _, _ => none)
      | .struct fields => if P.stoodInHeld t = true then none else (match x.agg?, y.agg? with
        | some xs, some ys => eqFs P (eqC P d) xs ys fields.toList
        | _, _ => none)
      | .array n e => (match td P e, x.agg?, y.agg? with
        | some de, some xs, some ys => eqEs (eqC P d e) de xs ys (List.range' 0 n)
        | _, _, _ => none)
      | _ => none

/-- == and != of structs and arrays. -/
def eqPlan (P : Program) (op : BinOp) (t : TypeId) (x y : C) : Option Plan :=
  if x.agg?.isSome = true ∧ y.agg?.isSome = true ∧ P.eqGuardType P.depth t = false then
    match op with
    | .eql => (eqC P 9 t x y).map fun b => .pure (.val (.bool b))
    | .neq => (eqC P 9 t x y).map fun b => .pure (.val (.bool !b))
    | _ => none
  else none

/-- == and != of arrays of integers, and of values. -/
def binPlan (P : Program) (op : BinOp) (t : TypeId) (x y : C) : Option Plan :=
  match x, y with
  | .val a, .val b => match a, b, td P t with
    | .bool _, .bool _, some d => (match d.u with | .bool => (sbin op a b).map fun v => .pure (.val v) | _ => none)
    | .int _ _, .int _ _, _ => (sbin op a b).map fun v => .pure (.val v)
    | .string _, .string _, _ => (sbin op a b).map fun v => .pure (.val v)
    | _, _, _ => eqPlan P op t x y
  | _, _ => eqPlan P op t x y

def unPlan (op : UnOp) (x : C) : Option Plan :=
  match op, x with
  | .neg, .val (.int k n) => some (.pure (.val (.int k (k.wrap (0 - n)))))
  | .xor, .val (.int k n) => some (.pure (.val (.int k (k.wrap (BitVec.ofInt k.bits (if k.signed then -1 else k.max) ^^^ BitVec.ofInt k.bits n).toNat))))
  | .not, .val (.bool b) => some (.pure (.val (.bool !b)))
  | _, _ => none

/- Boxes from k on are forgotten. -/
mutual
def noRef (k : Nat) : C → Bool
  | .sl _ _ xs => noRefs k xs
  | .sv b _ _ => decide (b < k)
  | .bp b _ => decide (b < k)
  | .kp xs => noRefs k xs
  | .agg xs => noRefs k xs
  | .tup xs => noRefs k xs
  | .fn _ xs => noRefs k xs
  | .top => true
  | .val _ => true
def noRefs (k : Nat) : List C → Bool
  | [] => true
  | x :: xs => noRef k x && noRefs k xs
end

mutual
def flat : C → Bool
  | .val _ => true
  | .agg xs => flats xs
  | .tup xs => flats xs
  | _ => false
def flats : List C → Bool
  | [] => true
  | x :: xs => flat x && flats xs
end

def frz1 (b : Nat) (cells : List C) : C → C
  | .sv b' off n => if b' = b ∧ off + n ≤ cells.length then .sl .no n (((cells.drop off).take n).map C.noR) else .sv b' off n
  | .bp b' off => if b' = b then .kp ((cells.drop off).map C.noR) else .bp b' off
  | c => c
def frzs1 (b : Nat) (cells : List C) : List C → List C
  | [] => []
  | c :: l => frz1 b cells c :: frzs1 b cells l
def refBox : List C → Option Nat
  | [] => none
  | .sv b _ _ :: _ => some b
  | .bp b _ :: _ => some b
  | _ :: l => refBox l
/-- A call that only reads a box is told its cells. -/
def rdPu (cx : Cx) (g : Nat) (as : List C) (b : Nat) (cells : List C) : Option C :=
  if noRefs 0 (frzs1 b cells as) = true then (match cx.pu g (frzs1 b cells as) with
    | some c => if flat c = true then some c else none
    | none => none) else none

def callPlan (cx : Cx) (f : C) (args : List C) : Option Plan :=
  match f with
  | .fn g caps =>
    let as := args.map C.share ++ caps
    match cx.pu g as with
    | some c => some (.pure c)
    | none => match refBox as with
      | some b => if (cx.hp g as []).isSome then some (.call g as) else some (.rd b (rdPu cx g as b))
      | none => some (.call g as)
  | _ => none

def minMax (isMax : Bool) (x y : C) : Option Plan :=
  match x, y with
  | .val (.int k a), .val (.int k' b) => if k = k' then some (.pure (.val (.int k (if isMax then (if a < b then b else a) else (if b < a then b else a))))) else none
  | _, _ => none

def splan (cx : Cx) (ops : Array Oper) (o : Oper) (env : Nat → C) : Option Plan :=
  let ev := cx.evn env
  let P := cx.P
  match o.op with
  | .move x => match x with
    | .tmp p => some (if isMv ops o.dst then .val (env p) (some p) else .pure (env p).noR)
    | x => some (.pure (ev x))
  | .assign x => some (.val (cx.ev env x) (tmp? x))
  | .pick c a b => match ev c with
    | .val (.bool true) => some (.pure (ev a))
    | .val (.bool false) => some (.pure (ev b))
    | _ => none
  | .alloc t => match td P t with
    | some d => if d.zero.all (·.oneCell') then some (.new (d.zero.map .val) fun id => .bp id 0) else none
    | none => none
  | .box _ x => (ev x).cells?.map fun cs => .new cs fun id => .bp id 0
  | .build t parts => match td P t with
    | some d => if d.zero.all (·.oneCell') = false then none else ((places P d.u).bind fun pl => lay pl (d.zero.map .val) (parts.toList.map fun x => (x.1, ev x.2))).map fun cs => .pure (.agg cs)
    | none => none
  | .buildSlice t n parts => match td P t with
    | some d => (match d.u with
      | .slice e => (match td P e with
        | some de => if n * de.size ≤ 65536 ∧ n ≤ 65536 ∧ de.zero.length = de.size ∧ de.zero.all (·.oneCell') = true then
            (lay (fun i => some (i * de.size, de.size)) (repZero de.zero n) (parts.toList.map fun x => (x.1, ev x.2))).map fun cs => .pure (.sl .full n cs) else none
        | none => none)
      | _ => none)
    | none => none
  | .load t x => loadPlan P (isApp ops o.dst) t (ev x)
  | .store t x y => storePlan P t (ev x) (cx.ev env y) (tmp? y)
  | .nilCheck x => match ev x with
    | .bp b k => some (.pure (.bp b k))
    | .kp xs => some (.pure (.kp xs))
    | .fn f cs => some (.pure (.fn f cs))
    | _ => none
  | .binOp op t x y _ => binPlan P op t (ev x) (ev y)
  | .unOp op _ x => unPlan op (ev x)
  | .convert s d x => convPlan P s d (ev x)
  | .sliceToArrayPointer t x => match td P t with
    | some d => (match d.u with
      | .array n e => (match td P e, ev x with
        | some _, .sv b off m => if n ≤ m ∧ n ≠ 0 then some (.pure (.bp b off)) else none
        | some de, c => (match c.sl? with
          | some (m, xs) => if n ≤ m ∧ xs ≠ [] ∧ xs.length = m * de.size then some (.pure (.kp xs)) else none
          | none => none)
        | _, _ => none)
      | _ => none)
    | none => none
  | .makeFunc (.func f) first caps => if first.isEmpty then some (.pure (.fn f (caps.toList.map fun x => (ev x).share))) else none
  | .makeSlice t l c => match td P t, (ev l).int?, (ev c).int? with
    | some d, some (_, n), some (_, m) => (match d.u with
      | .slice e => (match td P e with
        | some de => if 0 ≤ n ∧ n = m ∧ de.bytes * n ≤ 140737488355328 ∧ n ≤ 9223372036854775807 ∧ de.zero.length = de.size ∧ de.zero.all (·.oneCell') = true then some (.new (repZero de.zero n.toNat) fun id => .sv id 0 n.toNat) else none
        | none => none)
      | _ => none)
    | _, _, _ => none
  | .slice t x lo hi mx => slicePlan P t (ev x) (lo.map ev) (hi.map ev) (mx.map ev)
  | .fieldAddr t x f => fieldAddrPlan P t (ev x) f
  | .field t x f => fieldPlan P t (ev x) f
  | .indexAddr t x i => indexAddrPlan P t (ev x) (ev i)
  | .index t x i => indexPlan P t (ev x) (ev i)
  | .extract x i => match ev x with
    | .tup xs => (xs[i]?).map fun c => .pure c.noR
    | _ => none
  | .call c => match c.callee with
    | .builtin b => (match b, c.args.toList, c.argTypes.toList with
      | .len, [x], [t] => lenPlan P t (ev x)
      | .append, [x, y], [t, t2] => appendPlan P t t2 (cx.ev env x) (ev y) (tmp? x)
      | .copy, [x, y], [t, _] => copyPlan P t (ev x) (ev y)
      | .min, [x, y], _ => minMax false (ev x) (ev y)
      | .max, [x, y], _ => minMax true (ev x) (ev y)
      | _, _, _ => none)
    | .value f => callPlan cx (ev f) (c.args.toList.map ev)
    | .invoke _ _ => none
  | _ => none

def put (d : Option Nat) (c : C) (env : Nat → C) : Nat → C := match d with
  | some d => fun t => if t = d then c else env t
  | none => env

def killS (k : Option Nat) (env : Nat → C) : Nat → C := match k with
  | some p => fun t => if t = p then (env p).noR else env t
  | none => env

/-- What a plan does to the boxes: the value, the slot that loses its right, the boxes. -/
def actH (cx : Cx) (id : Nat) (p : Plan) (h : Hp) : Option (C × Option Nat × Hp) :=
  match p with
  | .val c k => some (c, k, h)
  | .rd b f => ((h.at b).bind f).map fun c => (c, none, h)
  | .wr b f k => ((h.at b).bind f).map fun r => (r.2, k, h.set b (some r.1))
  | .xr b off => (h.at b).bind fun cells => (cells[off]?).map fun x => (x, none, h.set b (some (cells.set off x.noR)))
  | .new cells g => match h[id]? with
    | some none => some (g id, none, h.set id (some cells))
    | _ => none
  | .call f as => (cx.hp f as h).map fun r => (r.1, none, r.2)

def act (cx : Cx) (id : Nat) (p : Plan) (st : St) : Option (C × St) := (actH cx id p st.h).map fun r => (r.1, ⟨killS r.2.1 st.env, r.2.2⟩)

/-- Is an operation to be made? -/
def wantedS (ops : Array Oper) (o : Oper) (env : Nat → C) : Option Bool :=
  match o.guard with
  | none => some true
  | some (j, want) => match (ops[j]?).bind (·.dst) with
    | none => some false
    | some t => match (env t).noR with
      | .val (.bool b) => some (b == want)
      | .val (.tuple _) => some false
      | _ => none

def makes (o : Oper) : Bool := match o.op with
  | .alloc _ | .box _ _ | .makeSlice _ _ _ => true
  | _ => false
def cnt (ops : Array Oper) (i : Nat) : Nat := (ops.toList.take i).countP makes

def dstOK (N : Nat) (d : Option Nat) : Bool := match d with
  | some d => decide (d < N)
  | none => true

def step (cx : Cx) (ops : Array Oper) (base i : Nat) (st : St) : Option St :=
  match ops[i]? with
  | none => none
  | some o => if dstOK cx.N o.dst = true then
      match wantedS ops o st.env with
      | none => none
      | some false => some ⟨put o.dst (.val undef) st.env, st.h⟩
      | some true => match splan cx ops o st.env with
        | none => none
        | some p => match act cx (base + cnt ops i) p st with
          | none => none
          | some (c, st') => some ⟨put o.dst c st'.env, st'.h⟩
    else none

def steps (cx : Cx) (ops : Array Oper) (base : Nat) : List Nat → St → Option St
  | [], st => some st
  | i :: l, st => (step cx ops base i st).bind (steps cx ops base l)

/-- Only some slots are kept. -/
def keepS (keep : List Nat) (env : Nat → C) : Nat → C := fun t => if keep.contains t then env t else .top

def sregion (cx : Cx) (ops : Array Oper) (st : St) : Option St :=
  steps cx ops st.h.length (List.range ops.size) ⟨st.env, st.h ++ List.replicate (cnt ops ops.size) none⟩

inductive Ex where
  | normal
  | exit (id : Nat)
  | ret

def resC (cx : Cx) (st : St) (r : ResultVar) : Option C :=
  match r with
  | .tmp t => some (st.env t)
  | .cell a t => match td cx.P t, st.env a with
    | some d, .bp b off => (st.h.at b).bind fun cells => getAt d cells off
    | _, _ => none

def results (cx : Cx) (fn : Func) (st : St) : Option C :=
  match fn.results.toList with
  | [r] => resC cx st r
  | rs => (rs.mapM (resC cx st)).map fun cs => .tup (cs.map C.noR)

def init (args : List C) : Nat → C := fun t => ((args[t]?).getD (.val undef)).noR

end Go.Sx

namespace Go.Sx
open Go.RowKit

/-- Only new blocks. -/
structure Ext (G : Gh) (w : World) (G' : Gh) (w' : World) : Prop where
  os : w'.os = w.os
  tape : w'.tape = w.tape
  output : w'.output = w.output
  size : w.heap.size ≤ w'.heap.size
  heap : ∀ g, g < w.heap.size → w'.heap[g]? = w.heap[g]?
  K : ∀ g, g < w.heap.size → ∀ o, G'.K g o = G.K g o
  T : ∀ g, g < w.heap.size → G'.T g = G.T g
  μ : ∀ b, G'.μ b = G.μ b ∨ (G.μ b = none ∧ ∃ k, w.heap.size ≤ k ∧ G'.μ b = some k)

def EnvOK (G : Gh) (w : World) (env : Nat → C) (f : Nat → Value) : Prop :=
  (∀ t, Rep G (env t) (f t)) ∧ ∀ t s n xs, env t = .sl (.own s) n xs → OwnRow G w (0, t, 0) (f t) s n

theorem World.heap_new (w : World) (o : Obj) : (w.alloc o).heap[w.heap.size]? = some o := by
  show (w.heap.push o)[w.heap.size]? = some o
  simp
theorem World.heap_old (w : World) (o : Obj) (i : Nat) (h : i < w.heap.size) : (w.alloc o).heap[i]? = w.heap[i]? := by
  show (w.heap.push o)[i]? = w.heap[i]?
  rw [Array.getElem?_push, if_neg (by omega)]

section
variable {G G' : Gh} {h h' : Hp} {w w' : World}

theorem WorldOK.klt (H : WorldOK G h w) {g o : Nat} {u : Value} (hk : G.K g o = some u) : g < w.heap.size :=
  block_lt_of_cell (H.known g o u hk)
theorem WorldOK.knone (H : WorldOK G h w) {g : Nat} (hg : w.heap.size ≤ g) (o : Nat) : G.K g o = none := by
  cases hk : G.K g o with
  | none => rfl
  | some u => have := H.klt hk; omega
theorem WorldOK.tnone (H : WorldOK G h w) {g : Nat} (hg : w.heap.size ≤ g) : G.T g = none := by
  cases hk : G.T g with
  | none => rfl
  | some u => have := H.tlt g u hk; omega
theorem WorldOK.μlt (H : WorldOK G h w) {b blk : Nat} (hb : G.μ b = some blk) : blk < w.heap.size := by
  obtain ⟨cells, hc⟩ := H.dom b blk hb
  obtain ⟨blk', cs, e, h1, h2, _⟩ := H.box b cells hc
  rw [hb] at h1
  cases h1
  exact (Array.getElem?_eq_some_iff.1 h2).1

theorem Ext.le (E : Ext G w G' w') (H : WorldOK G h w) : G.Le G' :=
  ⟨fun b o u hk => by rw [E.K b (H.klt hk)]; exact hk, fun b k hk => by
    rcases E.μ b with e | ⟨e, _⟩
    · rw [e]; exact hk
    · rw [e] at hk; cases hk⟩

theorem Ext.μold (E : Ext G w G' w') {g b : Nat} (hg : g < w.heap.size) (hm : G.μ b ≠ some g) : G'.μ b ≠ some g := by
  rcases E.μ b with e | ⟨_, k, hk, e⟩
  · rw [e]; exact hm
  · rw [e]; intro h; cases h; omega

theorem Ext.frm (E : Ext G w G' w') (H : WorldOK G h w) : Frm G w G' w' :=
  ⟨E.os, E.tape, E.output, E.size, E.le H, fun g hg ht hm => ⟨E.heap g hg, by rw [E.T g hg]; exact ht, fun b => E.μold hg (hm b), fun o => E.K g hg o⟩⟩

theorem Ext.cell (E : Ext G w G' w') {a : Addr} (ha : a.block < w.heap.size) : w'.cell? a = w.cell? a := World.cell?_of_block (E.heap a.block ha)

theorem Ext.own (E : Ext G w G' w') (H : WorldOK G h w) {p : Place} {v : Value} {s n : Nat} (O : OwnRow G w p v s n) : OwnRow G' w' p v s n := by
  rcases O with O | ⟨g, cap, cur, e, hv, ht, hg, hs, hk, hm⟩
  · exact .inl O
  · have hlt := H.tlt g p ht
    refine .inr ⟨g, cap, cur, e, hv, by rw [E.T g hlt]; exact ht, by rw [E.heap g hlt]; exact hg, hs, fun o ho => by rw [E.K g hlt]; exact hk o ho, fun b => E.μold hlt (hm b)⟩

theorem Ext.env (E : Ext G w G' w') (H : WorldOK G h w) {env : Nat → C} {f : Nat → Value} (O : EnvOK G w env f) : EnvOK G' w' env f :=
  ⟨fun t => (O.1 t).mono (E.le H), fun t s n xs he => E.own H (O.2 t s n xs he)⟩

/-- A row that nobody writes any more. -/
def commit (G : Gh) (b : Nat) (vs : List Value) : Gh := { G with K := fun g o => if g = b then vs[o]? else G.K g o }
def setT (G : Gh) (b : Nat) (p : Option Place) : Gh := { G with T := fun g => if g = b then p else G.T g }

theorem Ext.commit {G : Gh} {w w' : World} (vs : List Value) (p : Option Place) (hos : w'.os = w.os) (ht : w'.tape = w.tape) (ho : w'.output = w.output)
    (hh : ∃ ob, w'.heap = w.heap.push ob) : Ext G w (setT (Sx.commit G w.heap.size vs) w.heap.size p) w' := by
  obtain ⟨ob, hh⟩ := hh
  refine ⟨hos, ht, ho, by rw [hh]; simp, fun g hg => by rw [hh, Array.getElem?_push, if_neg (by omega)], fun g hg o => ?_, fun g hg => ?_, fun b => .inl rfl⟩
  · simp only [setT, Sx.commit]; rw [if_neg (by omega)]
  · simp only [setT]; rw [if_neg (by omega)]; rfl

theorem WorldOK.commit (H : WorldOK G h w) (vs : List Value) (p : Option Place) (cs : Array Value) (e : TypeId) (fr : Nat × Nat) (hos : w'.os = w.os) (ht : w'.tape = w.tape) (ho : w'.output = w.output)
    (hh : w'.heap = w.heap.push (.cells cs e fr)) (hv : ∀ (j : Nat) (u : Value), vs[j]? = some u → cs[j]? = some u) :
    WorldOK (setT (Sx.commit G w.heap.size vs) w.heap.size p) h w' ∧ Ext G w (setT (Sx.commit G w.heap.size vs) w.heap.size p) w' := by
  have E : Ext G w (setT (Sx.commit G w.heap.size vs) w.heap.size p) w' := Ext.commit vs p hos ht ho ⟨_, hh⟩
  have hnew : w'.heap[w.heap.size]? = some (.cells cs e fr) := by rw [hh]; simp
  refine ⟨⟨?_, ?_, H.dom, H.inj, ?_, ?_, ?_⟩, E⟩
  · intro blk off u hk
    simp only [setT, Sx.commit] at hk
    split at hk
    · rename_i hb
      subst hb
      simp only [World.cell?, hnew]
      simpa using hv off u hk
    · rw [E.cell (H.klt hk)]
      exact H.known blk off u hk
  · intro b cells hb
    obtain ⟨blk, cs', e', h1, h2, h3, h4⟩ := H.box b cells hb
    exact ⟨blk, cs', e', h1, by rw [E.heap blk (H.μlt h1)]; exact h2, h3.mono (E.le H), h4⟩
  · intro b blk hb
    have hlt := H.μlt hb
    obtain ⟨h1, h2⟩ := H.sep b blk hb
    exact ⟨fun o => by rw [E.K blk hlt]; exact h1 o, by rw [E.T blk hlt]; exact h2⟩
  · intro g q hg
    simp only [setT] at hg
    split at hg
    · subst_vars; rw [hh]; simp
    · have := H.tlt g q hg; rw [hh]; simp; omega
  · intro b cells off s n xs blk v hb hc hm hv'
    have hlt := H.μlt hm
    rw [E.cell hlt] at hv'
    exact E.own H (H.own b cells off s n xs blk v hb hc hm hv')

/-- Reading through draws changes nothing. -/
theorem WorldOK.same (H : WorldOK G h w) (hh : w'.heap = w.heap) : WorldOK G h w' := by
  have hc : ∀ a, w'.cell? a = w.cell? a := fun a => by simp only [World.cell?, hh]
  refine ⟨fun b o u hk => by rw [hc]; exact H.known b o u hk, fun b c hb => by rw [hh]; exact H.box b c hb, H.dom, H.inj, H.sep, fun g p hg => by rw [hh]; exact H.tlt g p hg, ?_⟩
  intro b cells off s n xs blk v hb hx hm hv
  rw [hc] at hv
  rcases H.own b cells off s n xs blk v hb hx hm hv with O | ⟨g, cap, cur, e, q1, q2, q3, q4⟩
  · exact .inl O
  · exact .inr ⟨g, cap, cur, e, q1, q2, by rw [hh]; exact q3, q4⟩

theorem Ext.same (hos : w'.os = w.os) (ht : w'.tape = w.tape) (ho : w'.output = w.output) (hh : w'.heap = w.heap) : Ext G w G w' :=
  ⟨hos, ht, ho, by rw [hh]; exact Nat.le_refl _, fun g _ => by rw [hh], fun _ _ _ => rfl, fun _ _ => rfl, fun _ => .inl rfl⟩

/-! Boxes -/

theorem Hp.at_some {h : Hp} {b : Nat} {cells : List C} : h.at b = some cells ↔ h[b]? = some (some cells) := by
  unfold Hp.at
  cases hb : h[b]? with
  | none => simp
  | some o => cases o <;> simp

theorem Hp.at_set {h : Hp} {b : Nat} (hb : b < h.length) (cells : List C) (b' : Nat) : Hp.at (h.set b (some cells)) b' = if b' = b then some cells else h.at b' := by
  unfold Hp.at
  rw [List.getElem?_set]
  split
  · rename_i e
    subst e
    simp [hb]
  · rename_i e
    rw [if_neg (Ne.symm e)]

def setμ (G : Gh) (b blk : Nat) : Gh := { G with μ := fun b' => if b' = b then some blk else G.μ b' }

/-- A new box. -/
theorem WorldOK.newBox (H : WorldOK G h w) (id : Nat) (hid : h[id]? = some none) (cells : List C) (vs : Array Value) (e : TypeId) (hw : w' = w.alloc (.cells vs e))
    (hr : RepL G cells vs.toList) (h1 : ∀ v ∈ vs.toList, v.oneCell' = true) (hno : ∀ (off s n : Nat) (xs : List C), cells[off]? ≠ some (C.sl (.own s) n xs)) :
    WorldOK (setμ G id w.heap.size) (h.set id (some cells)) w' ∧ Ext G w (setμ G id w.heap.size) w' := by
  subst hw
  have hlen : id < h.length := (List.getElem?_eq_some_iff.1 hid).1
  have hat : h.at id = none := by simp [Hp.at, hid]
  have hμ0 : G.μ id = none := by
    cases hm : G.μ id with
    | none => rfl
    | some k => obtain ⟨c, hc⟩ := H.dom id k hm; rw [hat] at hc; cases hc
  have E : Ext G w (setμ G id w.heap.size) (w.alloc (.cells vs e)) := by
    refine ⟨rfl, rfl, rfl, by simp, fun g hg => World.heap_old w _ g hg, fun _ _ _ => rfl, fun _ _ => rfl, fun b => ?_⟩
    simp only [setμ]
    by_cases hb : b = id
    · subst hb; exact .inr ⟨hμ0, w.heap.size, Nat.le_refl _, by simp⟩
    · exact .inl (by simp [hb])
  refine ⟨⟨?_, ?_, ?_, ?_, ?_, ?_, ?_⟩, E⟩
  · intro blk off u hk
    have hk' : G.K blk off = some u := hk
    rw [E.cell (H.klt hk')]
    exact H.known blk off u hk'
  · intro b cs hb
    rw [Hp.at_set hlen] at hb
    by_cases hbi : b = id
    · subst hbi
      simp only [if_true, Option.some.injEq] at hb
      subst hb
      exact ⟨w.heap.size, vs, e, by simp [setμ], World.heap_new w _, hr.mono (E.le H), h1⟩
    · rw [if_neg hbi] at hb
      obtain ⟨blk, cs', e', q1, q2, q3, q4⟩ := H.box b cs hb
      exact ⟨blk, cs', e', by simp [setμ, hbi, q1], by rw [World.heap_old w _ blk (H.μlt q1)]; exact q2, q3.mono (E.le H), q4⟩
  · intro b blk hb
    rw [Hp.at_set hlen]
    by_cases hbi : b = id
    · exact ⟨cells, by simp [hbi]⟩
    · simp only [setμ, hbi, if_false] at hb
      obtain ⟨c, hc⟩ := H.dom b blk hb
      exact ⟨c, by simp [hbi, hc]⟩
  · intro b b' blk hb hb'
    simp only [setμ] at hb hb'
    split at hb <;> split at hb'
    · omega
    · simp only [Option.some.injEq] at hb; have := H.μlt hb'; omega
    · simp only [Option.some.injEq] at hb'; have := H.μlt hb; omega
    · exact H.inj b b' blk hb hb'
  · intro b blk hb
    simp only [setμ] at hb
    split at hb
    · simp only [Option.some.injEq] at hb
      subst hb
      exact ⟨fun o => H.knone (Nat.le_refl _) o, H.tnone (Nat.le_refl _)⟩
    · exact H.sep b blk hb
  · intro g p hg
    have := H.tlt g p hg
    simp; omega
  · intro b cs off s n xs blk v hb hc hm hv
    rw [Hp.at_set hlen] at hb
    by_cases hbi : b = id
    · rw [if_pos hbi] at hb
      simp only [Option.some.injEq] at hb
      subst hb
      exact absurd hc (hno off s n xs)
    · rw [if_neg hbi] at hb
      simp only [setμ, hbi, if_false] at hm
      have hlt := H.μlt hm
      rw [E.cell hlt] at hv
      exact E.own H (H.own b cs off s n xs blk v hb hc hm hv)

/-- A box is written: the owner of each row that a cell of the box owns is told anew. -/
theorem WorldOK.setBox (H : WorldOK G h w) (b blk : Nat) (hb : G.μ b = some blk) (cells : List C) (vs : Array Value) (hg : G' = { G with T := G'.T })
    (hw : w' = w.setRow blk vs)
    (hr : RepL G cells vs.toList) (h1 : ∀ v ∈ vs.toList, v.oneCell' = true)
    (hT : ∀ g, G'.T g = none ↔ G.T g = none) (hTo : ∀ g b' o, b' ≠ b → (G.T g = some (1, b', o) → G'.T g = some (1, b', o)))
    (hown : ∀ (off s n : Nat) (xs : List C) (v : Value), cells[off]? = some (C.sl (.own s) n xs) → vs[off]? = some v → OwnRow G' w (1, b, off) v s n) :
    WorldOK G' (h.set b (some cells)) w' := by
  obtain ⟨cells0, hc0⟩ := H.dom b blk hb
  obtain ⟨blk', cs0, e, q1, q2, q3, q4⟩ := H.box b cells0 hc0
  rw [hb] at q1
  cases q1
  have hlen : b < h.length := by
    have := Hp.at_some.1 hc0
    exact (List.getElem?_eq_some_iff.1 this).1
  have hK : G'.K = G.K := by rw [hg]
  have hμ : G'.μ = G.μ := by rw [hg]
  have le : G.Le G' := ⟨fun _ _ _ x => by rw [hK]; exact x, fun _ _ x => by rw [hμ]; exact x⟩
  have hblk : w'.heap[blk]? = some (.cells vs e (0, 0)) := by rw [hw]; exact setRow_heap w blk cs0 vs e (0, 0) q2
  have hoth : ∀ g, g ≠ blk → w'.heap[g]? = w.heap[g]? := fun g hne => by rw [hw]; exact setRow_other w blk g vs hne
  have mv : ∀ {p : Place} {v : Value} {s n : Nat}, OwnRow G' w p v s n → OwnRow G' w' p v s n := by
    intro p v s n O
    rcases O with O | ⟨g, cap, cur, e', a1, a2, a3, a4, a5, a6⟩
    · exact .inl O
    · have hne : g ≠ blk := fun e => a6 b (by rw [hμ, hb, e])
      exact .inr ⟨g, cap, cur, e', a1, a2, by rw [hoth g hne]; exact a3, a4, a5, a6⟩
  refine ⟨?_, ?_, ?_, ?_, ?_, ?_, ?_⟩
  · intro g off u hk
    rw [hK] at hk
    have hne : g ≠ blk := fun e => by rw [e, (H.sep b blk hb).1 off] at hk; cases hk
    have := H.known g off u hk
    rw [← this]
    exact World.cell?_of_block (hoth g hne)
  · intro b' cs hb'
    rw [Hp.at_set hlen] at hb'
    by_cases hbi : b' = b
    · subst hbi
      simp only [if_true, Option.some.injEq] at hb'
      subst hb'
      exact ⟨blk, vs, e, by rw [hμ]; exact hb, hblk, hr.mono le, h1⟩
    · rw [if_neg hbi] at hb'
      obtain ⟨blk2, cs', e', r1, r2, r3, r4⟩ := H.box b' cs hb'
      have hne : blk2 ≠ blk := fun e => hbi (H.inj b' b blk (e ▸ r1) hb)
      exact ⟨blk2, cs', e', by rw [hμ]; exact r1, by rw [hoth blk2 hne]; exact r2, r3.mono le, r4⟩
  · intro b' blk' hm
    rw [hμ] at hm
    rw [Hp.at_set hlen]
    by_cases hbi : b' = b
    · exact ⟨cells, by simp [hbi]⟩
    · obtain ⟨c, hc⟩ := H.dom b' blk' hm
      exact ⟨c, by simp [hbi, hc]⟩
  · intro b1 b2 k; rw [hμ]; exact H.inj b1 b2 k
  · intro b' k hm
    rw [hμ] at hm
    obtain ⟨s1, s2⟩ := H.sep b' k hm
    exact ⟨fun o => by rw [hK]; exact s1 o, (hT k).2 s2⟩
  · intro g p hgp
    have : G.T g ≠ none := fun e => by rw [(hT g).2 e] at hgp; cases hgp
    obtain ⟨q, hq⟩ := Option.ne_none_iff_exists'.1 this
    have := H.tlt g q hq
    rw [hw]; simpa using this
  · intro b' cs off s n xs k v hb' hc hm hv
    rw [Hp.at_set hlen] at hb'
    rw [hμ] at hm
    by_cases hbi : b' = b
    · subst hbi
      simp only [if_true, Option.some.injEq] at hb'
      subst hb'
      rw [hb] at hm
      cases hm
      have hv2 : vs[off]? = some v := by
        have : w'.cell? ⟨blk, off, none⟩ = vs[off]? := by simp [World.cell?, hblk]
        rw [← this]; exact hv
      exact mv (hown off s n xs v hc hv2)
    · rw [if_neg hbi] at hb'
      have hne : k ≠ blk := fun e => hbi (H.inj b' b blk (e ▸ hm) hb)
      have hv2 : w.cell? ⟨k, off, none⟩ = some v := by rw [← hv]; exact (World.cell?_of_block (hoth k hne)).symm
      refine mv ?_
      rcases H.own b' cs off s n xs k v hb' hc hm hv2 with O | ⟨g, cap, cur, e', a1, a2, a3, a4, a5, a6⟩
      · exact .inl O
      · exact .inr ⟨g, cap, cur, e', a1, hTo g b' off hbi a2, a3, a4, by rw [hK]; exact a5, by rw [hμ]; exact a6⟩
end
end Go.Sx

namespace Go.Sx
open Go.RowKit

theorem td_spec {P : Program} {t : TypeId} {d : TD} (h : td P t = some d) : P.underlying t = some d.u ∧ ∃ i z, P.info? t = some i ∧ i.size = d.size ∧ i.bytes = d.bytes ∧ i.zero = some z ∧ z.cells.toList = d.zero := by
  unfold td at h
  split at h
  · rename_i u i hu hi
    split at h
    · rename_i z hz
      simp only [Option.some.injEq] at h
      subst h
      exact ⟨hu, i, z, hi, rfl, rfl, hz, rfl⟩
    · cases h
  · cases h

theorem run_size {P : Program} {t : TypeId} {d : TD} (h : td P t = some d) (w : World) : (sizeOf t).run P w = .ok d.size w := by
  obtain ⟨_, i, z, hi, hs, _⟩ := td_spec h
  simp [sizeOf, typeInfo, hi, hs]
theorem run_und {P : Program} {t : TypeId} {d : TD} (h : td P t = some d) (w : World) : (underlying t).run P w = .ok d.u w := run_underlying (td_spec h).1 w

/-- What an operation leaves. -/
structure Out (G : Gh) (w : World) (st' : St) (f : Nat → Value) (d : Place) (c : C) (v : Value) (G' : Gh) (w' : World) : Prop where
  rep : Rep G' c v
  own : ∀ s n xs, c = .sl (.own s) n xs → OwnRow G' w' d v s n
  ok : WorldOK G' st'.h w'
  env : EnvOK G' w' st'.env f
  frm : Frm G w G' w'

def av (a : Act) (t : Nat) : Value := a.tmps.getD t undef

def OpOK (P : Program) (o : Oper) (a : Act) (G : Gh) (w : World) (st' : St) (d : Place) (c : C) : Prop :=
  ∀ (K : Act → World → Prop) (Q : Exit → Act → World → Prop), (∀ v G' w', Out G w st' (av a) d c v G' w' → K (a.put o.dst v) w') → o.wp P a w K Q

/-- What holds ahead of an operation. -/
structure Pre (cx : Cx) (G : Gh) (w : World) (st : St) (a : Act) : Prop where
  ok : WorldOK G st.h w
  env : EnvOK G w st.env (av a)
  glob : ∀ g, Rep G (cx.gl g) (.pointer (some ⟨g, 0, none⟩))

section
variable {cx : Cx} {G : Gh} {w : World} {st : St} {a : Act} {o : Oper}

theorem Pre.ev (H : Pre cx G w st a) (x : Operand) : Rep G (cx.ev st.env x) (a.eval x) := by
  cases x with
  | tmp t => exact H.env.1 t
  | const v => simp [Cx.ev, Act.eval, Rep]
  | global g => exact (H.glob g).noR
  | func f => simp only [Cx.ev, Act.eval, Rep]; exact ⟨#[], rfl, by simp [RepL]⟩

theorem Pre.evn (H : Pre cx G w st a) (x : Operand) : Rep G (cx.evn st.env x) (a.eval x) := (H.ev x).noR

theorem OpOK.of_run {v : Value} {w' : World} {st' : St} {d : Place} {c : C} (hrun : (execOp a.eval o).run cx.P w = .ok (.value v) w') (h : ∃ G', Out G w st' (av a) d c v G' w') :
    OpOK cx.P o a G w st' d c := by
  intro K Q hK
  unfold Oper.wp
  rw [hrun]
  obtain ⟨G', hG⟩ := h
  exact hK v G' w' hG

theorem OpOK.of_skip {w' : World} {st' : St} {d : Place} {c : C} (hrun : (execOp a.eval o).run cx.P w = .ok .skip w') (h : ∃ G', Out G w st' (av a) d c undef G' w') :
    OpOK cx.P o a G w st' d c := by
  intro K Q hK
  unfold Oper.wp
  rw [hrun]
  obtain ⟨G', hG⟩ := h
  exact hK undef G' w' hG

def C.noOwn : C → Prop
  | .sl (.own _) _ _ => False
  | _ => True
theorem noOwn_noR (c : C) : c.noR.noOwn := by
  unfold C.noR
  split
  · simp [C.noOwn]
  · rename_i h
    cases c with
    | sl r n xs => cases r with
      | own s => exact absurd rfl (h s n xs)
      | no => trivial
      | full => trivial
    | _ => trivial

theorem OpOK.pure (H : Pre cx G w st a) {v : Value} {d : Place} {c : C} (hrun : (execOp a.eval o).run cx.P w = .ok (.value v) w) (hr : Rep G c v) (hn : c.noOwn) :
    OpOK cx.P o a G w st d c :=
  OpOK.of_run hrun ⟨G, hr, fun s n xs e => by rw [e] at hn; exact hn.elim, H.ok, H.env, Frm.refl G w⟩

/-- Memory made anew. -/
theorem OpOK.fresh (H : Pre cx G w st a) {v : Value} {d : Place} {c : C} {G' : Gh} {w' : World} (hrun : (execOp a.eval o).run cx.P w = .ok (.value v) w') (E : Ext G w G' w') (hok : WorldOK G' st.h w')
    (hr : Rep G' c v) (hn : ∀ s n xs, c = .sl (.own s) n xs → OwnRow G' w' d v s n) :
    OpOK cx.P o a G w st d c :=
  OpOK.of_run hrun ⟨G', hr, hn, hok, E.env H.ok H.env, E.frm H.ok⟩

/-- An owner is named anew. -/
theorem retag_ok (H : WorldOK G st.h w) {g p : Nat} {q : Place} (hg : G.T g = some (0, p, 0)) : WorldOK (setT G g (some q)) st.h w := by
  have hlt := H.tlt g _ hg
  have le : G.Le (setT G g (some q)) := ⟨fun _ _ _ x => x, fun _ _ x => x⟩
  refine ⟨H.known, ?_, H.dom, H.inj, ?_, ?_, ?_⟩
  · intro b cells hb
    obtain ⟨blk, cs, e, h1, h2, h3, h4⟩ := H.box b cells hb
    exact ⟨blk, cs, e, h1, h2, h3.mono le, h4⟩
  · intro b blk hb
    obtain ⟨h1, h2⟩ := H.sep b blk hb
    refine ⟨h1, ?_⟩
    simp only [setT]
    split
    · rename_i e; subst e; rw [hg] at h2; cases h2
    · exact h2
  · intro k r hk
    simp only [setT] at hk
    split at hk
    · subst_vars; exact hlt
    · exact H.tlt k r hk
  · intro b cells off s n xs blk v hb hc hm hv
    rcases H.own b cells off s n xs blk v hb hc hm hv with O | ⟨k, cap, cur, e, a1, a2, a3, a4, a5, a6⟩
    · exact .inl O
    · have hne : k ≠ g := fun e => by rw [e, hg] at a2; cases a2
      exact .inr ⟨k, cap, cur, e, a1, by simp only [setT]; rw [if_neg hne]; exact a2, a3, a4, a5, a6⟩

theorem frm_retag {g : Nat} {p : Place} {q : Place} (hg : G.T g = some p) : Frm G w (setT G g (some q)) w :=
  ⟨rfl, rfl, rfl, Nat.le_refl _, ⟨fun _ _ _ x => x, fun _ _ x => x⟩, fun k _ ht hm => ⟨rfl, by simp only [setT]; rw [if_neg (fun e => by rw [e, hg] at ht; cases ht)]; exact ht, hm, fun _ => rfl⟩⟩

theorem killS_rep {f : Nat → Value} (H : EnvOK G w st.env f) (k : Option Nat) (t : Nat) : Rep G (killS k st.env t) (f t) := by
  cases k with
  | none => exact H.1 t
  | some p =>
    simp only [killS]
    split
    · rename_i e; subst e; exact (H.1 t).noR
    · exact H.1 t

theorem noR_own {c : C} {s n : Nat} {xs : List C} (h : c.noR = .sl (.own s) n xs) : False := by
  have := noOwn_noR c
  rw [h] at this
  exact this

theorem killS_own {k : Option Nat} {t s n : Nat} {xs : List C} {env : Nat → C} (h : killS k env t = .sl (.own s) n xs) : env t = .sl (.own s) n xs ∧ k ≠ some t := by
  cases k with
  | none => exact ⟨h, by simp⟩
  | some p =>
    simp only [killS] at h
    split at h
    · exact (noR_own h).elim
    · rename_i e; exact ⟨h, fun e' => e (by simpa using e'.symm)⟩

/-- A value goes from one slot to another, and its rights with it. -/
theorem OpOK.move (H : Pre cx G w st a) {d : Place} {c : C} {x : Operand} (hx : c = cx.ev st.env x) (hrun : (execOp a.eval o).run cx.P w = .ok (.value (a.eval x)) w) :
    OpOK cx.P o a G w ⟨killS (tmp? x) st.env, st.h⟩ d c := by
  have hrep : Rep G c (a.eval x) := hx ▸ H.ev x
  have plain : (∀ s n xs, c = .sl (.own s) n xs → OwnRow G w d (a.eval x) s n) → OpOK cx.P o a G w ⟨killS (tmp? x) st.env, st.h⟩ d c := fun hO =>
    OpOK.of_run hrun ⟨G, hrep, hO, H.ok, ⟨fun t => killS_rep H.env _ t, fun t s n xs e => H.env.2 t s n xs (killS_own e).1⟩, Frm.refl G w⟩
  by_cases hno : c.noOwn
  · exact plain fun s n xs e => by rw [e] at hno; exact hno.elim
  · obtain ⟨p, hp⟩ : ∃ p, x = .tmp p := by
      cases x with
      | tmp p => exact ⟨p, rfl⟩
      | const v => exact absurd (hx ▸ trivial) hno
      | global g => exact absurd (hx ▸ noOwn_noR _) hno
      | func f => exact absurd (hx ▸ trivial) hno
    subst hp
    have hce : c = st.env p := hx
    obtain ⟨s, n, xs, hs⟩ : ∃ s n xs, c = .sl (.own s) n xs := by
      cases c with
      | sl r n xs => cases r with
        | own s => exact ⟨_, _, _, rfl⟩
        | no => exact absurd trivial hno
        | full => exact absurd trivial hno
      | _ => exact absurd trivial hno
    rcases H.env.2 p s n xs (hce ▸ hs) with O | ⟨g, cap, cur, e, a1, a2, a3, a4, a5, a6⟩
    · refine plain fun s' n' xs' e => ?_
      rw [hs] at e
      cases e
      exact .inl O
    · have le : G.Le (setT G g (some d)) := ⟨fun _ _ _ x => x, fun _ _ x => x⟩
      refine OpOK.of_run hrun ⟨setT G g (some d), hrep.mono le, ?_, retag_ok H.ok a2, ⟨fun t => (killS_rep H.env (some p) t).mono le, ?_⟩, frm_retag a2⟩
      · intro s' n' xs' e'
        rw [hs] at e'
        cases e'
        exact .inr ⟨g, cap, cur, e, a1, by simp [setT], a3, a4, a5, a6⟩
      · intro t s' n' xs' e'
        obtain ⟨e1, e2⟩ := killS_own (env := st.env) (k := tmp? (.tmp p)) e'
        have hpt : p ≠ t := by simpa [tmp?] using e2
        rcases H.env.2 t s' n' xs' e1 with O | ⟨g', cap', cur', e'', b1, b2, b3, b4, b5, b6⟩
        · exact .inl O
        · have hne : g' ≠ g := fun q => hpt (by rw [q, a2] at b2; simpa using b2)
          exact .inr ⟨g', cap', cur', e'', b1, by simp only [setT]; rw [if_neg hne]; exact b2, b3, b4, b5, b6⟩
end
end Go.Sx

namespace Go.Sx
open Go.RowKit

section
variable {cx : Cx} {G : Gh} {w : World} {st : St} {a : Act} {o : Oper}

theorem rep_val {v u : Value} : Rep G (.val v) u ↔ u = v := by simp [Rep]

theorem int?_rep {c : C} {v : Value} {k : IntKind} {n : Int} (h : c.int? = some (k, n)) (hr : Rep G c v) : v = .int k n := by
  unfold C.int? at h
  split at h
  · cases h; exact rep_val.1 hr
  · cases h

theorem sl?_rep {c : C} {v : Value} {n : Nat} {xs : List C} (h : c.sl? = some (n, xs)) (hr : Rep G c v) :
    ∃ b cap, v = .slice b n cap ∧ n ≤ cap ∧ cap ≤ maxLen ∧ (xs = [] ∨ ∃ blk off, b = some ⟨blk, off, none⟩ ∧ RepK G blk off xs) := by
  unfold C.sl? at h
  split at h
  · cases h
    simp only [Rep] at hr
    obtain ⟨b, cap, h1, h2, h3, _, h5⟩ := hr
    exact ⟨b, cap, h1, h2, h3, h5⟩
  · cases h
    rw [rep_val] at hr
    exact ⟨none, 0, hr, Nat.le_refl _, Nat.zero_le _, .inl rfl⟩
  · cases h

theorem share_rep {c : C} {v : Value} (hr : Rep G c v) : Rep G c.share v := by
  unfold C.share
  split
  · rw [rep_val] at hr
    simp only [Rep]
    exact ⟨none, 0, hr, Nat.le_refl _, Nat.zero_le _, by simp, by simp⟩
  · simp only [Rep] at hr ⊢
    obtain ⟨a, cap, h1, h2, h3, _, h5⟩ := hr
    exact ⟨a, cap, h1, h2, h3, by simp, h5⟩
  · exact hr.noR

theorem share_noOwn (c : C) : c.share.noOwn := by
  unfold C.share
  split
  · trivial
  · trivial
  · exact noOwn_noR c

theorem RepL.map_noR {xs : List C} {vs : List Value} (h : RepL G xs vs) : RepL G (xs.map C.noR) vs :=
  RepL.of_get (by simpa using h.length) fun i x v hx hv => by
    rw [List.getElem?_map] at hx
    cases hy : xs[i]? with
    | none => rw [hy] at hx; cases hx
    | some y =>
      rw [hy] at hx
      cases hx
      obtain ⟨u, hu, hr⟩ := h.get i y hy
      rw [hv] at hu
      cases hu
      exact hr.noR
theorem cells?_rep {c : C} {v : Value} {cs : List C} (h : c.cells? = some cs) (hr : Rep G c v) :
    RepL G cs v.cells.toList ∧ ∀ u ∈ v.cells.toList, u.oneCell' = true := by
  have one : ∀ (d : C) (x : Value), Rep G d x → x.oneCell' = true → cs = [d] → x = v → RepL G cs v.cells.toList ∧ ∀ u ∈ v.cells.toList, u.oneCell' = true := by
    rintro d x h1 h2 rfl rfl
    have hc : x.cells = #[x] := by cases x <;> first | rfl | cases h2
    rw [hc]
    exact ⟨by simp only [RepL]; exact ⟨x, [], rfl, h1, rfl⟩, by simp [h2]⟩
  unfold C.cells? at h
  split at h
  · cases h
    simp only [Rep] at hr
    obtain ⟨vs, rfl, h2, h3⟩ := hr
    exact ⟨h2.map_noR, h3⟩
  · rename_i vs
    split at h
    · rename_i ha
      cases h
      rw [rep_val] at hr
      subst hr
      refine ⟨RepL.of_get (by simp [Value.cells]) fun i x u hx hu => ?_, fun u hu => (List.all_eq_true.1 ha) u hu⟩
      rw [List.getElem?_map] at hx
      have hu' : vs.toList[i]? = some u := hu
      rw [hu'] at hx
      cases hx
      exact rep_val.2 rfl
    · cases h
  · rename_i u hne
    split at h
    · rename_i h1
      cases h
      rw [rep_val] at hr
      subst hr
      exact one _ _ (rep_val.2 rfl) h1 rfl rfl
    · cases h
  · rename_i r n xs
    cases h
    have hr' := hr.noR
    simp only [Rep] at hr
    obtain ⟨b, cap, rfl, _⟩ := hr
    exact one _ _ hr' rfl rfl rfl
  · cases h
    have hr' := hr
    simp only [Rep] at hr
    obtain ⟨b, cap, k, rfl, _⟩ := hr
    exact one _ _ hr' rfl rfl rfl
  · cases h
    have hr' := hr
    simp only [Rep] at hr
    obtain ⟨k, _, rfl⟩ := hr
    exact one _ _ hr' rfl rfl rfl
  · cases h
    have hr' := hr
    simp only [Rep] at hr
    obtain ⟨k, off, rfl, _⟩ := hr
    exact one _ _ hr' rfl rfl rfl
  · cases h
    have hr' := hr
    simp only [Rep] at hr
    obtain ⟨vs, rfl, _⟩ := hr
    exact one _ _ hr' rfl rfl rfl
  · cases h
  · cases h

theorem cells?_noOwn {c : C} {cs : List C} (h : c.cells? = some cs) : ∀ x ∈ cs, x.noOwn := by
  unfold C.cells? at h
  split at h
  · cases h; intro x hx; obtain ⟨v, _, rfl⟩ := List.mem_map.1 hx; exact noOwn_noR v
  · split at h
    · cases h; intro x hx; obtain ⟨v, _, rfl⟩ := List.mem_map.1 hx; trivial
    · cases h
  · split at h
    · cases h; simp [C.noOwn]
    · cases h
  · cases h; intro x hx; simp only [List.mem_singleton] at hx; subst hx; exact noOwn_noR _
  all_goals first | (cases h; simp [C.noOwn]; done) | cases h

/-- The agg's cells. -/
theorem agg?_rep {c : C} {v : Value} {xs : List C} (h : c.agg? = some xs) (hr : Rep G c v) : ∃ vs, v = .agg vs ∧ RepL G xs vs.toList ∧ ∀ u ∈ vs.toList, u.oneCell' = true := by
  unfold C.agg? at h
  split at h
  · cases h
    simpa only [Rep] using hr
  · rename_i vs
    split at h
    · rename_i ha
      cases h
      rw [rep_val] at hr
      subst hr
      refine ⟨vs, rfl, RepL.of_get (by simp) fun i x u hx hu => ?_, fun u hu => (List.all_eq_true.1 ha) u hu⟩
      rw [List.getElem?_map, hu] at hx
      cases hx
      exact rep_val.2 rfl
    · cases h
  · cases h

theorem RepL.drop {xs : List C} {vs : List Value} (h : RepL G xs vs) (k : Nat) : RepL G (xs.drop k) (vs.drop k) :=
  RepL.of_get (by simp [h.length]) fun i x v hx hv => by
    rw [List.getElem?_drop] at hx hv
    obtain ⟨u, hu, hr⟩ := h.get _ x hx
    rw [hv] at hu; cases hu; exact hr
theorem RepL.take {xs : List C} {vs : List Value} (h : RepL G xs vs) (k : Nat) : RepL G (xs.take k) (vs.take k) :=
  RepL.of_get (by simp [h.length]) fun i x v hx hv => by
    rw [List.getElem?_take] at hx hv
    split at hx
    · rename_i hik
      rw [if_pos hik] at hv
      obtain ⟨u, hu, hr⟩ := h.get _ x hx
      rw [hv] at hu; cases hu; exact hr
    · cases hx
theorem RepL.append {xs ys : List C} {vs us : List Value} (h : RepL G xs vs) (k : RepL G ys us) : RepL G (xs ++ ys) (vs ++ us) :=
  RepL.of_get (by simp [h.length, k.length]) fun i x v hx hv => by
    rw [List.getElem?_append] at hx hv
    rw [h.length] at hx
    split at hx
    · rename_i hi
      rw [if_pos hi] at hv
      obtain ⟨u, hu, hr⟩ := h.get _ x hx
      rw [hv] at hu; cases hu; exact hr
    · rename_i hi
      rw [if_neg hi] at hv
      obtain ⟨u, hu, hr⟩ := k.get _ x hx
      rw [hv] at hu; cases hu; exact hr

theorem run_isAgg {P : Program} {t : TypeId} {d : TD} (h : td P t = some d) (w : World) : (isAgg t).run P w = .ok d.isAgg w := by
  unfold isAgg TD.isAgg
  simp only [Sem.run_bind, run_und h, Result.andThen_ok]
  split <;> simp_all

/-- A part of an aggregate's cells. -/
theorem getAt_part {P : Program} {t : TypeId} {d : TD} (h : td P t = some d) {xs : List C} {vs : Array Value} (hr : RepL G xs vs.toList) (h1 : ∀ u ∈ vs.toList, u.oneCell' = true) {off : Nat} {c : C}
    (hg : getAt d xs off = some c) : ∃ v, (part t vs off).run P w = .ok v w ∧ Rep G c v ∧ c.noOwn := by
  unfold getAt at hg
  unfold part
  simp only [Sem.run_bind, run_isAgg h, Result.andThen_ok]
  split at hg
  · rename_i ha
    rw [if_pos ha]
    split at hg
    · rename_i hle
      cases hg
      simp only [Sem.run_bind, run_size h, Result.andThen_ok, Sem.run_pure]
      refine ⟨_, rfl, ?_, trivial⟩
      simp only [Rep]
      have hex : (vs.extract off (off + d.size)).toList = (vs.toList.drop off).take d.size := by
        simp [Array.toList_extract, List.extract_eq_take_drop] 
      refine ⟨_, rfl, by rw [hex]; exact ((hr.drop off).take d.size).map_noR, fun u hu => ?_⟩
      rw [hex] at hu
      exact h1 u (List.mem_of_mem_drop (List.mem_of_mem_take hu))
    · cases hg
  · rename_i ha
    rw [if_neg ha]
    cases hx : xs[off]? with
    | none => rw [hx] at hg; cases hg
    | some x =>
      rw [hx] at hg
      cases hg
      obtain ⟨v, hv, hrv⟩ := hr.get off x hx
      have hv' : vs[off]? = some v := by simpa using hv
      rw [hv']
      exact ⟨v, rfl, hrv.noR, noOwn_noR x⟩

theorem idx?_spec {c : C} {v : Value} {n k : Nat} (h : idx? c n = some k) (hr : Rep G c v) : ∃ kd, v = .int kd (k : Int) ∧ k < n := by
  unfold idx? at h
  split at h
  · rename_i kd i hi
    split at h
    · rename_i hb
      cases h
      have := int?_rep hi hr
      refine ⟨kd, ?_, by omega⟩
      rw [this, Int.toNat_of_nonneg hb.1]
    · cases h
  · cases h

/-! Operators -/

theorem sbin_int (P : Program) (w : World) (op : BinOp) (t : TypeId) (x y : Operand) (k k' : IntKind) (p q : Int) {v : Value} (h : sbin op (.int k p) (.int k' q) = some v) :
    (do eqGuard op t x y (.int k p) (.int k' q); binOp op t (.int k p) (.int k' q)).run P w = .ok v w := by
  have hg : (eqGuard op t x y (.int k p) (.int k' q)).run P w = .ok () w := by
    unfold eqGuard
    split <;> rfl
  simp only [Sem.run_bind, hg, Result.andThen_ok]
  unfold sbin at h
  cases op <;> simp only [] at h <;> simp only [binOp, Op.shift, Op.intArith, Op.intDiv, Op.intBits, Op.intCmp]
  case shl =>
    split at h
    · cases h
    · rename_i hb; cases h; rw [if_neg hb]; rfl
  case shr =>
    split at h
    · cases h
    · rename_i hb; cases h; rw [if_neg hb]; rfl
  all_goals
    split at h
    · cases h
    · rename_i hk
      simp only [hk, if_false]
      first
        | (cases h; rfl)
        | (split at h <;> simp_all)

theorem sbin_str (P : Program) (w : World) (op : BinOp) (t : TypeId) (x y : Operand) (p q : ByteArray) {v : Value} (h : sbin op (.string p) (.string q) = some v) :
    (do eqGuard op t x y (.string p) (.string q); binOp op t (.string p) (.string q)).run P w = .ok v w := by
  have hg : (eqGuard op t x y (.string p) (.string q)).run P w = .ok () w := by
    unfold eqGuard
    split <;> rfl
  simp only [Sem.run_bind, hg, Result.andThen_ok]
  unfold sbin at h
  cases op <;> simp only [] at h <;> simp only [binOp, Op.stringOp] <;> first | (cases h; rfl) | cases h | skip
  split at h
  · rename_i hle
    cases h
    rw [if_neg]
    · rfl
    · have : IntKind.i64.max = 9223372036854775807 := by decide
      rw [this]; omega
  · cases h

theorem sbin_bool (P : Program) (w : World) (op : BinOp) (t : TypeId) (x y : Operand) (p q : Bool) {v : Value} (ht : P.underlying t = some .bool) (h : sbin op (.bool p) (.bool q) = some v) :
    (do eqGuard op t x y (.bool p) (.bool q); binOp op t (.bool p) (.bool q)).run P w = .ok v w := by
  have hg : (eqGuard op t x y (.bool p) (.bool q)).run P w = .ok () w := by
    unfold eqGuard
    split <;> rfl
  simp only [Sem.run_bind, hg, Result.andThen_ok]
  have he0 : ∀ d, (Op.equalIn (d + 1) t (.bool p) (.bool q)).run P w = .ok (p == q) w := fun d => by
    simp [Op.equalIn, run_underlying ht]
  have he : (Op.equal t (.bool p) (.bool q)).run P w = .ok (p == q) w := he0 9999
  unfold sbin at h
  cases op <;> simp only [] at h <;> first | (cases h; simp only [binOp, Sem.run_bind, he, Result.andThen_ok, Sem.run_pure]) | cases h
end
end Go.Sx

namespace Go.Sx
open Go.RowKit

section
variable {cx : Cx} {G : Gh} {w : World} {st : St} {a : Act} {o : Oper} {P : Program}

/-- A bound of a slice expression. -/
theorem bound?_spec (H : Pre cx G w st a) {x : Option Operand} {dflt most k : Nat} (h : bound? (x.map (cx.evn st.env)) dflt most = some k) :
    (x = none ∧ k = dflt) ∨ ∃ y kd, x = some y ∧ a.eval y = .int kd (k : Int) ∧ k ≤ most := by
  cases x with
  | none => simp [bound?] at h; exact .inl ⟨rfl, h.symm⟩
  | some y =>
    simp only [bound?, Option.map_some] at h
    split at h
    · rename_i kd i hi
      split at h
      · rename_i hb
        cases h
        have := int?_rep hi (H.evn y)
        exact .inr ⟨y, kd, rfl, by rw [this, Int.toNat_of_nonneg hb.1], by omega⟩
      · cases h
    · cases h

theorem run_bounds (isS : Bool) (len cap : Nat) (lo hi : Option Value) (l h' : Nat) (hhi : (hi = none ∧ h' = len) ∨ ∃ kd, hi = some (.int kd (h' : Int)) ∧ h' ≤ cap)
    (hlo : (lo = none ∧ l = 0) ∨ ∃ kd, lo = some (.int kd (l : Int)) ∧ l ≤ h') : (Instr.sliceBounds isS len cap lo hi none).run P w = .ok (l, h', cap) w := by
  unfold Instr.sliceBounds
  rcases hhi with ⟨rfl, rfl⟩ | ⟨kd, rfl, hh⟩ <;> rcases hlo with ⟨rfl, rfl⟩ | ⟨kd', rfl, hl⟩ <;>
    simp [run_sliceBound, *]

theorem run_bounds3 (isS : Bool) (len cap : Nat) (lo hi : Option Value) (l h' m : Nat) (kd : IntKind) (hm : m ≤ cap) (hhi : ∃ kd, hi = some (.int kd (h' : Int)) ∧ h' ≤ m)
    (hlo : (lo = none ∧ l = 0) ∨ ∃ kd, lo = some (.int kd (l : Int)) ∧ l ≤ h') : (Instr.sliceBounds isS len cap lo hi (some (.int kd (m : Int)))).run P w = .ok (l, h', m) w := by
  unfold Instr.sliceBounds
  obtain ⟨kd, rfl, hh⟩ := hhi
  rcases hlo with ⟨rfl, rfl⟩ | ⟨kd', rfl, hl⟩ <;>
    simp [run_sliceBound, *]

theorem addr_add (b o k : Nat) : (⟨b, o, none⟩ : Addr).add k = ⟨b, o + k, none⟩ := Addr.add_mid b o k

theorem slicePlan_ok (H : Pre cx G w st a) {t : TypeId} {x : Operand} {lo hi mx : Option Operand} {p : Plan}
    (h : slicePlan cx.P t (cx.evn st.env x) (lo.map (cx.evn st.env)) (hi.map (cx.evn st.env)) (mx.map (cx.evn st.env)) = some p) :
    ∃ c v, p = .val c none ∧ c.noOwn ∧ (Instr.sliceAt t (a.eval x) (lo.map a.eval) (hi.map a.eval) (mx.map a.eval)).run cx.P w = .ok v w ∧ Rep G c v := by
  have hx := H.evn x
  unfold slicePlan at h
  split at h
  · cases h
  rename_i d hd
  have hu := (td_spec hd).1
  generalize hc : cx.evn st.env x = c at h hx
  generalize a.eval x = xv at hx
  unfold Instr.sliceAt
  simp only [Sem.run_bind, run_und hd, Result.andThen_ok]
  split at h
  · -- a string
    rename_i s hs
    rw [rep_val] at hx
    subst hx
    rw [hs]
    simp only [Instr.slice, Sem.run_bind, run_und hd, Result.andThen_ok, hs]
    split at h
    · cases h
    rename_i hmx
    have hmx' : mx = none := by cases mx <;> simp at hmx ⊢
    subst hmx'
    split at h
    · rename_i hh hhe
      split at h
      · rename_i ll hle
        cases h
        have b1 := bound?_spec H hhe
        have b2 := bound?_spec H hle
        have hrun := run_bounds (P := cx.P) (w := w) false s.size s.size (lo.map a.eval) (hi.map a.eval) ll hh
          (by rcases b1 with ⟨rfl, rfl⟩ | ⟨y, kd, rfl, e, hl⟩ <;> simp [*])
          (by rcases b2 with ⟨rfl, rfl⟩ | ⟨y, kd, rfl, e, hl⟩ <;> simp [*])
        simp only [Option.map_none, Option.isSome_none, Bool.false_eq_true, if_false, hrun, Result.andThen_ok, Sem.run_pure, Sem.run_bind]
        exact ⟨_, _, rfl, trivial, rfl, rep_val.2 rfl⟩
      · cases h
    · cases h
  · -- a slice of a box
    rename_i e b off n hs
    simp only [Rep] at hx
    obtain ⟨ad, cap, blk, rfl, hnc, hcm, hμ, had⟩ := hx
    rw [hs]
    simp only [Instr.slice, Sem.run_bind, run_und hd, Result.andThen_ok, hs]
    split at h
    · rename_i de hde
      split at h
      · cases h
      rename_i hmx
      have hmx' : mx = none := by cases mx <;> simp at hmx ⊢
      subst hmx'
      split at h
      · rename_i hh hhe
        split at h
        · rename_i ll hle
          cases h
          have b1 := bound?_spec H hhe
          have b2 := bound?_spec H hle
          have hhn : hh ≤ n := by rcases b1 with ⟨_, rfl⟩ | ⟨y, kd, _, _, hl⟩ <;> omega
          have hlh : ll ≤ hh := by rcases b2 with ⟨_, rfl⟩ | ⟨y, kd, _, _, hl⟩ <;> omega
          have hrun := run_bounds (P := cx.P) (w := w) true n cap (lo.map a.eval) (hi.map a.eval) ll hh
            (by rcases b1 with ⟨rfl, rfl⟩ | ⟨y, kd, rfl, e, hl⟩ <;> simp [*]; omega)
            (by rcases b2 with ⟨rfl, rfl⟩ | ⟨y, kd, rfl, e, hl⟩ <;> simp [*])
          simp only [Option.map_none, hrun, Result.andThen_ok, Sem.run_pure, run_size hde]
          refine ⟨_, _, rfl, trivial, rfl, ?_⟩
          simp only [Rep]
          refine ⟨_, _, blk, rfl, by omega, by omega, hμ, fun hne => ?_⟩
          have hcl : cap ≠ ll := by omega
          rw [if_neg hcl, had (by omega)]
          simp [addr_add]
        · cases h
      · cases h
    · cases h
  · -- a slice
    rename_i e hs hnsv
    split at h
    · rename_i de n xs hde hsl
      obtain ⟨ad, cap, rfl, hnc, hcm, hk⟩ := sl?_rep hsl hx
      rw [hs]
      simp only [Instr.slice, Sem.run_bind, run_und hd, Result.andThen_ok, hs]
      split at h
      · rename_i hlen
        split at h
        · rename_i m hme
          split at h
          · rename_i hh hhe
            split at h
            · rename_i ll hle
              cases h
              have b0 := bound?_spec H hme
              have b1 := bound?_spec H hhe
              have b2 := bound?_spec H hle
              have hlh : ll ≤ hh := by rcases b2 with ⟨_, rfl⟩ | ⟨y, kd, _, _, hl⟩ <;> omega
              have tail : ∀ (m' : Nat), hh ≤ m' → m' ≤ cap → hh ≤ n → ∀ (r : Rt), (r = .full → m' = hh) →
                  Rep G (.sl r (hh - ll) ((xs.drop (ll * de.size)).take ((hh - ll) * de.size))) (.slice (if m' = ll then ad else ad.map (·.add (ll * de.size))) (hh - ll) (m' - ll)) := by
                intro m' q1 q2 q3 r hr
                simp only [Rep]
                refine ⟨_, _, rfl, by omega, by omega, fun e => by have := hr e; omega, ?_⟩
                by_cases hz : (xs.drop (ll * de.size)).take ((hh - ll) * de.size) = []
                · exact .inl hz
                · right
                  rcases hk with hk | ⟨blk, off, had, hk⟩
                  · subst hk; simp at hz
                  · have hne : m' ≠ ll := by
                      rintro rfl
                      have : hh - m' = 0 := by omega
                      rw [this] at hz; simp at hz
                    rw [if_neg hne, had]
                    exact ⟨blk, off + ll * de.size, by simp [addr_add], (hk.drop _).take _⟩
              cases mx with
              | none =>
                simp [bound?] at hme
                subst hme
                simp only [Option.map_none, Option.isSome_none, Bool.false_eq_true, if_false] at b1
                have hhn : hh ≤ n := by rcases b1 with ⟨_, rfl⟩ | ⟨y, kd, _, _, hl⟩ <;> omega
                have hrun := run_bounds (P := cx.P) (w := w) true n cap (lo.map a.eval) (hi.map a.eval) ll hh
                  (by rcases b1 with ⟨rfl, e⟩ | ⟨y, kd, rfl, e, hl⟩ <;> simp [*] <;> first | simpa using e | omega)
                  (by rcases b2 with ⟨rfl, rfl⟩ | ⟨y, kd, rfl, e, hl⟩ <;> simp [*])
                simp only [Option.map_none, hrun, Result.andThen_ok, Sem.run_pure, run_size hde]
                refine ⟨_, _, rfl, by simp [C.noOwn], rfl, tail cap (by omega) (Nat.le_refl _) hhn _ (by simp)⟩
              | some my =>
                rcases b0 with ⟨e, _⟩ | ⟨y, kd, e, hmy, hmn⟩
                · cases e
                cases e
                rcases b1 with ⟨rfl, e⟩ | ⟨y, kd', rfl, e, hl⟩
                · -- no high with a max: not in Go
                  simp at hlen
                · have hrun := run_bounds3 (P := cx.P) (w := w) true n cap (lo.map a.eval) (some (a.eval y)) ll hh m kd (by omega) ⟨kd', by rw [e], by simpa using hl⟩
                    (by rcases b2 with ⟨rfl, rfl⟩ | ⟨y, kd, rfl, e, hl⟩ <;> simp [*])
                  simp only [Option.map_some, hmy, hrun, Result.andThen_ok, Sem.run_pure, run_size hde]
                  have hhm : hh ≤ m := by simpa using hl
                  refine ⟨_, _, rfl, ?_, rfl, tail m hhm (by omega) (by omega) _ ?_⟩
                  · split <;> simp [C.noOwn]
                  · split
                    · rename_i q; intro _; exact q.2
                    · intro q; cases q
            · cases h
          · cases h
        · cases h
      · cases h
    · cases h
  · -- a box that is an array
    rename_i n e b off hs
    simp only [Rep] at hx
    obtain ⟨blk, hμ, rfl⟩ := hx
    rw [hs]
    simp only [Instr.sureAddr, Sem.run_bind, Sem.run_pure, Result.andThen_ok]
    split at h
    · rename_i de hde
      split at h
      · cases h
      rename_i hmx
      have hmx' : mx = none := by cases mx <;> simp at hmx ⊢
      subst hmx'
      have hn6 : n ≤ 65536 := by simp at hmx; omega
      have hml : (65536 : Nat) ≤ maxLen := by decide
      split at h
      · rename_i hh hhe
        split at h
        · rename_i ll hle
          cases h
          have b1 := bound?_spec H hhe
          have b2 := bound?_spec H hle
          have hhn : hh ≤ n := by rcases b1 with ⟨_, rfl⟩ | ⟨y, kd, _, _, hl⟩ <;> omega
          have hlh : ll ≤ hh := by rcases b2 with ⟨_, rfl⟩ | ⟨y, kd, _, _, hl⟩ <;> omega
          have hrun := run_bounds (P := cx.P) (w := w) false n n (lo.map a.eval) (hi.map a.eval) ll hh
            (by rcases b1 with ⟨rfl, rfl⟩ | ⟨y, kd, rfl, e, hl⟩ <;> simp [*])
            (by rcases b2 with ⟨rfl, rfl⟩ | ⟨y, kd, rfl, e, hl⟩ <;> simp [*])
          simp only [Option.map_none, hrun, Result.andThen_ok, run_size hde]
          refine ⟨_, _, rfl, trivial, rfl, ?_⟩
          simp only [Rep]
          refine ⟨_, _, blk, rfl, by omega, ?_, hμ, fun hne => ?_⟩
          · omega
          · have hcl : n ≠ ll := by omega
            rw [if_neg hcl]
            simp [addr_add]
        · cases h
      · cases h
    · cases h
  · -- an array that nobody writes any more
    rename_i n e xs hs
    simp only [Rep] at hx
    obtain ⟨blk, off, rfl, hk⟩ := hx
    rw [hs]
    simp only [Instr.sureAddr, Sem.run_bind, Sem.run_pure, Result.andThen_ok]
    split at h
    · rename_i de hde
      split at h
      · cases h
      rename_i hmx
      have hmx' : mx = none := by cases mx <;> simp at hmx ⊢
      subst hmx'
      have hn6 : n ≤ 65536 := by simp at hmx; omega
      have hml : (65536 : Nat) ≤ maxLen := by decide
      split at h
      · rename_i hh hhe
        split at h
        · rename_i ll hle
          cases h
          have b1 := bound?_spec H hhe
          have b2 := bound?_spec H hle
          have hhn : hh ≤ n := by rcases b1 with ⟨_, rfl⟩ | ⟨y, kd, _, _, hl⟩ <;> omega
          have hlh : ll ≤ hh := by rcases b2 with ⟨_, rfl⟩ | ⟨y, kd, _, _, hl⟩ <;> omega
          have hrun := run_bounds (P := cx.P) (w := w) false n n (lo.map a.eval) (hi.map a.eval) ll hh
            (by rcases b1 with ⟨rfl, rfl⟩ | ⟨y, kd, rfl, e, hl⟩ <;> simp [*])
            (by rcases b2 with ⟨rfl, rfl⟩ | ⟨y, kd, rfl, e, hl⟩ <;> simp [*])
          simp only [Option.map_none, hrun, Result.andThen_ok, run_size hde]
          refine ⟨_, _, rfl, trivial, rfl, ?_⟩
          simp only [Rep]
          refine ⟨_, _, rfl, by omega, ?_, by simp, ?_⟩
          · omega
          · by_cases hz : (xs.drop (ll * de.size)).take ((hh - ll) * de.size) = []
            · exact .inl hz
            · right
              have hcl : n ≠ ll := by
                rintro rfl
                have : hh - n = 0 := by omega
                rw [this] at hz; simp at hz
              rw [if_neg hcl]
              exact ⟨blk, off + ll * de.size, by simp [addr_add], (hk.drop _).take _⟩
        · cases h
      · cases h
    · cases h
  · cases h

theorem indexAddrPlan_ok {t : TypeId} {x i : C} {xv iv : Value} (hx : Rep G x xv) (hi : Rep G i iv) {p : Plan} (h : indexAddrPlan P t x i = some p) :
    ∃ c v, p = .val c none ∧ c.noOwn ∧ (Instr.indexAt t xv iv).run P w = .ok v w ∧ Rep G c v := by
  unfold indexAddrPlan at h
  split at h
  · cases h
  rename_i d hd
  unfold Instr.indexAt
  split at h
  · rename_i n e b off hs
    split at h
    · rename_i de k hde hk
      cases h
      obtain ⟨kd, rfl, hkn⟩ := idx?_spec hk hi
      simp only [Rep] at hx
      obtain ⟨blk, hμ, rfl⟩ := hx
      refine ⟨_, .pointer (some ⟨blk, off + k * de.size, none⟩), rfl, trivial, ?_, by simp only [Rep]; exact ⟨blk, hμ, rfl⟩⟩
      simp [asIntOf, run_und hd, hs, Instr.sureAddr, run_size hde, addr_add, hkn]
    · cases h
  · rename_i n e xs hs
    split at h
    · rename_i de k hde hk
      split at h
      · rename_i hlen
        cases h
        obtain ⟨kd, rfl, hkn⟩ := idx?_spec hk hi
        simp only [Rep] at hx
        obtain ⟨blk, off, rfl, hK⟩ := hx
        refine ⟨_, .pointer (some ⟨blk, off + k * de.size, none⟩), rfl, trivial, ?_, by simp only [Rep]; exact ⟨blk, _, rfl, hK.drop _⟩⟩
        simp [asIntOf, run_und hd, hs, Instr.sureAddr, run_size hde, addr_add, hkn]
      · cases h
    · cases h
  · rename_i e b off n hs
    split at h
    · rename_i de k hde hk
      cases h
      obtain ⟨kd, rfl, hkn⟩ := idx?_spec hk hi
      simp only [Rep] at hx
      obtain ⟨ad, cap, blk, rfl, hnc, hcm, hμ, had⟩ := hx
      have had' := had (by omega)
      subst had'
      refine ⟨_, .pointer (some ⟨blk, off + k * de.size, none⟩), rfl, trivial, ?_, by simp only [Rep]; exact ⟨blk, hμ, rfl⟩⟩
      simp [asIntOf, run_und hd, hs, run_size hde, addr_add, hkn]
    · cases h
  · rename_i e r n xs hs
    split at h
    · rename_i de k hde hk
      split at h
      · rename_i hlen
        cases h
        obtain ⟨kd, rfl, hkn⟩ := idx?_spec hk hi
        simp only [Rep] at hx
        obtain ⟨ad, cap, rfl, hnc, hcm, _, hK⟩ := hx
        rcases hK with hK | ⟨blk, off, rfl, hK⟩
        · exact absurd hK hlen.2
        refine ⟨_, .pointer (some ⟨blk, off + k * de.size, none⟩), rfl, trivial, ?_, by simp only [Rep]; exact ⟨blk, _, rfl, hK.drop _⟩⟩
        simp [asIntOf, run_und hd, hs, run_size hde, addr_add, hkn]
      · cases h
    · cases h
  · cases h

theorem indexPlan_ok {t : TypeId} {x i : C} {xv iv : Value} (hx : Rep G x xv) (hi : Rep G i iv) {p : Plan} (h : indexPlan P t x i = some p) :
    ∃ c v, p = .val c none ∧ c.noOwn ∧ (Instr.index t xv iv).run P w = .ok v w ∧ Rep G c v := by
  unfold indexPlan at h
  split at h
  · cases h
  rename_i d hd
  unfold Instr.index
  split at h
  · rename_i s hs
    split at h
    · rename_i k hk
      obtain ⟨kd, rfl, hkn⟩ := idx?_spec hk hi
      rw [rep_val] at hx
      subst hx
      cases hb : s.data[k]? with
      | none => rw [hb] at h; cases h
      | some b =>
        rw [hb] at h
        cases h
        have hs' : s[k]? = some b := by
          have hlt : k < s.data.size := (Array.getElem?_eq_some_iff.1 hb).1
          have : s[k]? = some (s[k]'hlt) := by simp [hkn]
          rw [this]
          have := (Array.getElem?_eq_some_iff.1 hb).2
          rw [← this]; rfl
        refine ⟨_, _, rfl, trivial, ?_, rep_val.2 rfl⟩
        simp [asIntOf, run_und hd, hs, hs']
    · cases h
  · rename_i n e hs
    split at h
    · rename_i de k xs hde hk hag
      obtain ⟨kd, rfl, hkn⟩ := idx?_spec hk hi
      obtain ⟨vs, rfl, hr, h1⟩ := agg?_rep hag hx
      cases hg : getAt de xs (k * de.size) with
      | none => rw [hg] at h; cases h
      | some c =>
        rw [hg] at h
        cases h
        obtain ⟨v, hv, hrc, hno⟩ := getAt_part (w := w) hde hr h1 hg
        refine ⟨c, v, rfl, hno, ?_, hrc⟩
        simp [asIntOf, run_und hd, hs, run_size hde, hkn, hv]
    · cases h
  · cases h

theorem fieldPlan_ok {t : TypeId} {x : C} {xv : Value} {f : Nat} (hx : Rep G x xv) {p : Plan} (h : fieldPlan P t x f = some p) :
    ∃ c v, p = .val c none ∧ c.noOwn ∧ (Instr.field t xv f).run P w = .ok v w ∧ Rep G c v := by
  unfold fieldPlan at h
  split at h
  · cases h
  rename_i d hd
  unfold Instr.field
  split at h
  · rename_i fields hs
    split at h
    · rename_i fd xs hf hag
      split at h
      · rename_i de hde
        obtain ⟨vs, rfl, hr, h1⟩ := agg?_rep hag hx
        cases hg : getAt de xs fd.offset with
        | none => rw [hg] at h; cases h
        | some c =>
          rw [hg] at h
          cases h
          obtain ⟨v, hv, hrc, hno⟩ := getAt_part (w := w) hde hr h1 hg
          refine ⟨c, v, rfl, hno, ?_, hrc⟩
          simp [run_und hd, hs, hf, asAgg, hv]
      · cases h
    · cases h
  · cases h

theorem fieldAddrPlan_ok {t : TypeId} {x : C} {xv : Value} {f : Nat} (hx : Rep G x xv) {p : Plan} (h : fieldAddrPlan P t x f = some p) :
    ∃ c v, p = .val c none ∧ c.noOwn ∧ (Instr.fieldAt t xv f).run P w = .ok v w ∧ Rep G c v := by
  unfold fieldAddrPlan at h
  split at h
  · cases h
  rename_i d hd
  unfold Instr.fieldAt
  split at h
  · rename_i fields hs
    split at h
    · rename_i fd hf
      split at h
      · rename_i de hde
        split at h
        · cases h
        rename_i hz
        split at h
        · rename_i b off
          cases h
          simp only [Rep] at hx
          obtain ⟨blk, hμ, rfl⟩ := hx
          refine ⟨_, .pointer (some ⟨blk, off + fd.offset, none⟩), rfl, trivial, ?_, by simp only [Rep]; exact ⟨blk, hμ, rfl⟩⟩
          simp [run_und hd, hs, hf, Instr.sureAddr, fieldPlace, run_size hde, hz, addr_add]
        · rename_i xs
          split at h
          · cases h
            simp only [Rep] at hx
            obtain ⟨blk, off, rfl, hK⟩ := hx
            refine ⟨_, .pointer (some ⟨blk, off + fd.offset, none⟩), rfl, trivial, ?_, by simp only [Rep]; exact ⟨blk, _, rfl, hK.drop _⟩⟩
            simp [run_und hd, hs, hf, Instr.sureAddr, fieldPlace, run_size hde, hz, addr_add]
          · cases h
        · cases h
      · cases h
    · cases h
  · cases h

theorem lenPlan_ok {t ty : TypeId} {x : C} {xv : Value} (hx : Rep G x xv) {p : Plan} (h : lenPlan P t x = some p) :
    ∃ c v, p = .val c none ∧ c.noOwn ∧ (Builtin.len_ #[t] ty #[xv]).run P w = .ok v w ∧ Rep G c v := by
  unfold lenPlan at h
  split at h
  · cases h
  rename_i d hd
  unfold Builtin.len_
  split at h
  · rename_i s hs
    cases h
    rw [rep_val] at hx
    subst hx
    exact ⟨_, _, rfl, trivial, by simp [run_und hd, hs]; rfl, rep_val.2 rfl⟩
  · rename_i n e hs
    cases h
    exact ⟨_, _, rfl, trivial, by simp [run_und hd, hs]; rfl, rep_val.2 rfl⟩
  · rename_i e b off n hs
    cases h
    simp only [Rep] at hx
    obtain ⟨ad, cap, blk, rfl, _⟩ := hx
    exact ⟨_, _, rfl, trivial, by simp [run_und hd, hs]; rfl, rep_val.2 rfl⟩
  · rename_i x0 d0 x1 e hs hn
    cases hsl : x0.sl? with
    | none => rw [hsl] at h; cases h
    | some r =>
      rw [hsl] at h
      cases h
      obtain ⟨ad, cap, rfl, _⟩ := sl?_rep hsl hx
      exact ⟨_, _, rfl, trivial, by simp [run_und hd, hs]; rfl, rep_val.2 rfl⟩
  · cases h

theorem eqEs_ok {D : Nat} {e : TypeId} {de : TD} (hde : td P e = some de) {f : C → C → Option Bool} (hf : ∀ a b r va vb, f a b = some r → Rep G a va → Rep G b vb → (Op.equalIn D e va vb).run P w = .ok r w)
    {xs ys : List C} {va vb : Array Value} (hx : RepL G xs va.toList) (hx1 : ∀ u ∈ va.toList, u.oneCell' = true) (hy : RepL G ys vb.toList) (hy1 : ∀ u ∈ vb.toList, u.oneCell' = true) :
    ∀ (l : List Nat) (r : Bool), eqEs f de xs ys l = some r →
      ∃ q, (forIn (m := Sem) l (none, PUnit.unit) fun i _ => do
        if !(← Op.equalIn D e (← part e va (i * de.size)) (← part e vb (i * de.size))) then pure (ForInStep.done (some false, PUnit.unit)) else pure (ForInStep.yield (none, PUnit.unit))).run P w = .ok (q, PUnit.unit) w ∧ q = (if r then none else some false)
  | [], r, h => by
    simp only [eqEs, Option.some.injEq] at h
    subst h
    exact ⟨none, by simp, rfl⟩
  | i :: l, r, h => by
    simp only [eqEs] at h
    cases ha : getAt de xs (i * de.size) with
    | none => rw [ha] at h; cases h
    | some a =>
      cases hb : getAt de ys (i * de.size) with
      | none => rw [ha, hb] at h; cases h
      | some b =>
        rw [ha, hb] at h
        simp only [] at h
        obtain ⟨pa, p1, p2, _⟩ := getAt_part (w := w) hde hx hx1 ha
        obtain ⟨pb, q1, q2, _⟩ := getAt_part (w := w) hde hy hy1 hb
        cases hfr : f a b with
        | none => rw [hfr] at h; cases h
        | some r' =>
          have hr := hf a b r' pa pb hfr p2 q2
          rw [hfr] at h
          cases r' with
          | false =>
            simp only [Option.some.injEq] at h
            subst h
            exact ⟨some false, by simp [p1, q1, hr], rfl⟩
          | true =>
            obtain ⟨q, h1, h2⟩ := eqEs_ok hde hf hx hx1 hy hy1 l r h
            refine ⟨q, ?_, h2⟩
            simp only [List.forIn_cons, Sem.run_bind, p1, q1, hr, Result.andThen_ok, Bool.not_true, Bool.false_eq_true, if_false, Sem.run_pure]
            exact h1

theorem eqFs_ok {D : Nat} {f : TypeId → C → C → Option Bool} (hf : ∀ t a b r va vb, f t a b = some r → Rep G a va → Rep G b vb → (Op.equalIn D t va vb).run P w = .ok r w)
    {xs ys : List C} {va vb : Array Value} (hx : RepL G xs va.toList) (hx1 : ∀ u ∈ va.toList, u.oneCell' = true) (hy : RepL G ys vb.toList) (hy1 : ∀ u ∈ vb.toList, u.oneCell' = true) :
    ∀ (l : List Field) (r : Bool), eqFs P f xs ys l = some r → (Op.eqFields D va vb l).run P w = .ok r w
  | [], r, h => by
    simp only [eqFs, Option.some.injEq] at h
    subst h
    simp [Op.eqFields]
  | fd :: l, r, h => by
    simp only [eqFs] at h
    simp only [Op.eqFields]
    split at h
    · rename_i hne
      rw [if_pos hne]
      split at h
      · rename_i de hde
        cases ha : getAt de xs fd.offset with
        | none => rw [ha] at h; cases h
        | some a =>
          cases hb : getAt de ys fd.offset with
          | none => rw [ha, hb] at h; cases h
          | some b =>
            rw [ha, hb] at h
            simp only [] at h
            obtain ⟨pa, p1, p2, _⟩ := getAt_part (w := w) hde hx hx1 ha
            obtain ⟨pb, q1, q2, _⟩ := getAt_part (w := w) hde hy hy1 hb
            cases hfr : f fd.type a b with
            | none => rw [hfr] at h; cases h
            | some r' =>
              have hr := hf _ a b r' pa pb hfr p2 q2
              rw [hfr] at h
              cases r' with
              | false =>
                simp only [Option.some.injEq] at h
                subst h
                simp [p1, q1, hr]
              | true =>
                simp only [Sem.run_bind, p1, q1, hr, Result.andThen_ok, Bool.not_true, Bool.false_eq_true, if_false]
                exact eqFs_ok hf hx hx1 hy hy1 l r h
      · cases h
    · rename_i hne
      rw [if_neg hne]
      exact eqFs_ok hf hx hx1 hy hy1 l r h

theorem eqC_ok : ∀ (d : Nat) (t : TypeId) (x y : C) (b : Bool) (xv yv : Value), eqC P d t x y = some b → Rep G x xv → Rep G y yv → ∀ D, d ≤ D → (Op.equalIn D t xv yv).run P w = .ok b w
  | 0, _, _, _, _, _, _, h, _, _, _, _ => by simp [eqC] at h
  | d + 1, t, x, y, b, xv, yv, h, hx, hy, D, hD => by
    obtain ⟨D, rfl⟩ : ∃ D', D = D' + 1 := ⟨D - 1, by omega⟩
    simp only [eqC] at h
    split at h
    · cases h
    rename_i dt hdt
    have hu := (td_spec hdt).1
    split at h
    · rename_i hd
      rw [hd] at hu
      split at h
      · rename_i p q
        rw [rep_val] at hx hy; subst hx hy
        cases h
        exact run_equalIn_bool' w D t p q hu
      · cases h
    · rename_i k0 hd
      rw [hd] at hu
      split at h
      · rename_i k p k' q
        rw [rep_val] at hx hy; subst hx hy
        split at h
        · rename_i e; subst e
          cases h
          exact run_equalIn_int w D t k k0 p q hu
        · cases h
      · cases h
    · rename_i hd
      rw [hd] at hu
      split at h
      · rename_i p q
        rw [rep_val] at hx hy; subst hx hy
        cases h
        exact run_equalIn_string w D t p q hu
      · cases h
    · rename_i fields hd
      rw [hd] at hu
      split at h
      · cases h
      rename_i hst
      split at h
      · rename_i xs ys h1 h2
        obtain ⟨va, rfl, a1, a2⟩ := agg?_rep h1 hx
        obtain ⟨vb, rfl, b1, b2⟩ := agg?_rep h2 hy
        have hfo : P.fieldsOf t = fields := by simp [Program.fieldsOf, hu]
        rw [run_equalIn_struct w D t va vb (by rw [hfo]; exact hu) (by simpa using hst), hfo]
        exact eqFs_ok (fun t' a b' r va' vb' hr ra rb => eqC_ok d t' a b' r va' vb' hr ra rb D (by omega)) a1 a2 b1 b2 _ _ h
      · cases h
    · rename_i n e hd
      rw [hd] at hu
      split at h
      · rename_i de xs ys hde h1 h2
        obtain ⟨va, rfl, a1, a2⟩ := agg?_rep h1 hx
        obtain ⟨vb, rfl, b1, b2⟩ := agg?_rep h2 hy
        obtain ⟨q, k1, k2⟩ := eqEs_ok (D := D) hde (fun a b' r va' vb' hr ra rb => eqC_ok d e a b' r va' vb' hr ra rb D (by omega)) a1 a2 b1 b2 _ _ h
        simp only [Op.equalIn, Sem.run_bind, run_underlying hu, Result.andThen_ok, run_size hde, Std.Legacy.Range.forIn_eq_forIn_range', Std.Legacy.Range.size, Nat.sub_zero, Nat.add_one_sub_one, Nat.div_one]
        refine (congrArg (fun z => Result.andThen z _) k1).trans ?_
        rw [k2]
        cases b <;> simp [Result.andThen]
      · cases h
    · cases h

theorem eqPlan_ok {op : BinOp} {t : TypeId} {x y : C} {xv yv : Value} (xo yo : Operand) (hx : Rep G x xv) (hy : Rep G y yv) {p : Plan} (h : eqPlan P op t x y = some p) :
    ∃ c v, p = .val c none ∧ c.noOwn ∧ (do eqGuard op t xo yo xv yv; binOp op t xv yv).run P w = .ok v w ∧ Rep G c v := by
  unfold eqPlan at h
  split at h
  · rename_i hh
    obtain ⟨h1, h2, h3⟩ := hh
    obtain ⟨xs, h1⟩ := Option.isSome_iff_exists.1 h1
    obtain ⟨ys, h2⟩ := Option.isSome_iff_exists.1 h2
    obtain ⟨va, rfl, a1, a2⟩ := agg?_rep h1 hx
    obtain ⟨vb, rfl, b1, b2⟩ := agg?_rep h2 hy
    split at h
    · cases he : eqC P 9 t x y with
      | none => rw [he] at h; cases h
      | some b =>
        rw [he] at h
        cases h
        have := eqC_ok (G := G) (w := w) 9 t x y b _ _ he hx hy Op.maxDepth (by decide)
        exact ⟨_, .bool b, rfl, trivial, by simp [eqGuard, binOp, h3, Op.equal, this], rep_val.2 rfl⟩
    · cases he : eqC P 9 t x y with
      | none => rw [he] at h; cases h
      | some b =>
        rw [he] at h
        cases h
        have := eqC_ok (G := G) (w := w) 9 t x y b _ _ he hx hy Op.maxDepth (by decide)
        exact ⟨_, .bool !b, rfl, trivial, by simp [eqGuard, binOp, h3, Op.equal, this], rep_val.2 rfl⟩
    · cases h
  · cases h

theorem binPlan_ok {op : BinOp} {t : TypeId} {x y : C} {xv yv : Value} (xo yo : Operand) (hx : Rep G x xv) (hy : Rep G y yv) {p : Plan} (h : binPlan P op t x y = some p) :
    ∃ c v, p = .val c none ∧ c.noOwn ∧ (do eqGuard op t xo yo xv yv; binOp op t xv yv).run P w = .ok v w ∧ Rep G c v := by
  unfold binPlan at h
  split at h
  · rw [rep_val] at hx hy
    subst hx hy
    split at h
    · rename_i tdo p' q d hd
      split at h
      · rename_i hb
        cases hs : sbin op (.bool p') (.bool q) with
        | none => rw [hs] at h; cases h
        | some v =>
          rw [hs] at h
          cases h
          exact ⟨_, v, rfl, trivial, sbin_bool P w op t xo yo p' q (hb ▸ (td_spec hd).1) hs, rep_val.2 rfl⟩
      · cases h
    · rename_i tdo k p' k' q
      cases hs : sbin op (.int k p') (.int k' q) with
      | none => rw [hs] at h; cases h
      | some v =>
        rw [hs] at h
        cases h
        exact ⟨_, v, rfl, trivial, sbin_int P w op t xo yo k k' p' q hs, rep_val.2 rfl⟩
    · rename_i tdo p' q
      cases hs : sbin op (.string p') (.string q) with
      | none => rw [hs] at h; cases h
      | some v =>
        rw [hs] at h
        cases h
        exact ⟨_, v, rfl, trivial, sbin_str P w op t xo yo p' q hs, rep_val.2 rfl⟩
    · exact eqPlan_ok xo yo (rep_val.2 rfl) (rep_val.2 rfl) h
  · exact eqPlan_ok xo yo hx hy h

theorem unPlan_ok {op : UnOp} {x : C} {xv : Value} (hx : Rep G x xv) {p : Plan} (h : unPlan op x = some p) :
    ∃ c v, p = .val c none ∧ c.noOwn ∧ (Op.unary op xv).run P w = .ok v w ∧ Rep G c v := by
  unfold unPlan at h
  split at h <;> first | (cases h; done) | skip
  all_goals
    rw [rep_val] at hx
    subst hx
    cases h
    exact ⟨_, _, rfl, trivial, rfl, rep_val.2 rfl⟩
end
end Go.Sx

namespace Go.Sx
open Go.RowKit

section
variable {cx : Cx} {G : Gh} {h : Hp} {w : World} {st : St} {a : Act} {o : Oper} {P : Program}

theorem run_lenOf_slice (b : Option Addr) (n c : Nat) : (Builtin.lenOf (.slice b n c)).run P w = .ok n w := rfl
theorem run_lenOf_string (s : ByteArray) : (Builtin.lenOf (.string s)).run P w = .ok s.size w := rfl

/-- What an append takes. -/
def Src (P : Program) (w : World) (size : Nat) (yv : Value) (m : Nat) (news : List Value) : Prop :=
  (∀ w', (Builtin.lenOf yv).run P w' = .ok m w') ∧ (∀ w' : World, w'.heap = w.heap → (Builtin.firstCells size m yv).run P w' = .ok news.toArray w') ∧ ∀ u ∈ news, u.oneCell' = true

theorem cells_firstCells {w' : World} (size m : Nat) (blk off len cap : Nat) (news : List Value) (hl : news.length = m * size) (hc : ∀ j u, news[j]? = some u → w'.cell? ⟨blk, off + j, none⟩ = some u) :
    (Builtin.firstCells size m (.slice (some ⟨blk, off, none⟩) len cap)).run P w' = .ok news.toArray w' :=
  run_firstCells_some w' size m ⟨blk, off, none⟩ len cap news hl fun j v hv => by rw [addr_add]; exact hc j v hv

theorem src_ok (H : WorldOK G h w) {y : C} {yv : Value} {m size : Nat} {ys : List C} (hs : src? y = some (m, ys)) (hlen : ys.length = m * size) (hr : Rep G y yv) :
    ∃ news, news.length = ys.length ∧ RepL G ys news ∧ Src P w size yv m news := by
  unfold src? at hs
  split at hs
  · rename_i s
    cases hs
    rw [rep_val] at hr
    subst hr
    refine ⟨s.data.toList.map fun b => .int .u8 b.toNat, by simp, ?_, fun w' => rfl, fun w' _ => ?_, ?_⟩
    · refine RepL.of_get (by simp) fun i x v hx hv => ?_
      rw [List.getElem?_map] at hx hv
      cases hb : s.data.toList[i]? with
      | none => rw [hb] at hx; cases hx
      | some b => rw [hb] at hx hv; cases hx; cases hv; exact rep_val.2 rfl
    · simp only [Builtin.firstCells, Sem.run_pure]
      congr 1
      have : s.extract 0 s.size = s := by
        apply ByteArray.ext
        simp
      rw [this]
      apply Array.ext'
      simp
    · intro u hu
      obtain ⟨b, _, rfl⟩ := List.mem_map.1 hu
      rfl
  · rename_i c hne
    obtain ⟨b, cap, rfl, hmc, hcm, hk⟩ := sl?_rep hs hr
    rcases hk with rfl | ⟨blk, off, rfl, hk⟩
    · have hz : m * size = 0 := by simpa using hlen.symm
      refine ⟨[], rfl, by simp [RepL], fun _ => rfl, fun w' _ => ?_, by simp⟩
      cases b with
      | none => simp [Builtin.firstCells]
      | some ad => simp [Builtin.firstCells, hz, loadCells, loadCellsFrom]
    · obtain ⟨vs, v1, v2, v3, v4⟩ := hk.values
      refine ⟨vs, v1, v2, fun _ => rfl, fun w' hw' => cells_firstCells size m blk off m cap vs (by rw [v1, hlen]) fun j u hu => ?_, v4⟩
      have := H.known _ _ _ (v3 j u hu)
      rw [← this]
      simp only [World.cell?, hw']

theorem sv_src (H : WorldOK G h w) {b off m size : Nat} {yv : Value} {cells : List C} (hb : h.at b = some cells) (hlen : off + m * size ≤ cells.length) (hr : Rep G (.sv b off m) yv) :
    ∃ news, news.length = m * size ∧ RepL G (((cells.drop off).take (m * size)).map C.noR) news ∧ Src P w size yv m news := by
  obtain ⟨blk, cs, e, h1, h2, h3, h4⟩ := H.box b cells hb
  simp only [Rep] at hr
  obtain ⟨ad, cap, blk', rfl, hmc, hcm, hμ, had⟩ := hr
  rw [h1] at hμ
  cases hμ
  have hcl : cs.toList.length = cells.length := h3.length.symm
  have hnl : ((cs.toList.drop off).take (m * size)).length = m * size := by
    simp only [List.length_take, List.length_drop]; omega
  refine ⟨(cs.toList.drop off).take (m * size), hnl, ((h3.drop off).take _).map_noR, fun _ => rfl, fun w' hw' => ?_, fun u hu => h4 u (List.mem_of_mem_drop (List.mem_of_mem_take hu))⟩
  by_cases hm : m = 0
  · subst hm
    cases ad with
    | none => simp [Builtin.firstCells]
    | some ad => simp [Builtin.firstCells, loadCells, loadCellsFrom]
  · rw [had hm]
    refine cells_firstCells size m blk off m cap _ hnl fun j u hu => ?_
    rw [List.getElem?_take] at hu
    split at hu
    · rw [List.getElem?_drop] at hu
      simp only [World.cell?, hw', h2]
      simpa using hu
    · cases hu

/-! append -/

theorem run_append_more (t t2 ty e : TypeId) (d d2 de : TD) (z : Value) (i : TypeInfo) (hd : td P t = some d) (hde : d.u = .slice e) (he : td P e = some de) (hi : P.info? e = some i) (hz : i.zero = some z)
    (hd2 : td P t2 = some d2) (hn2 : notInt d2.u = true)
    (b : Option Addr) (n cap : Nat) (olds : List Value) (ho : Src P w de.size (.slice b n cap) n olds) (yv : Value) (m : Nat) (news : List Value) (hs : Src P w de.size yv m news)
    (hg : cap < n + m) (h63 : n + m ≤ 9223372036854775807) (hfit : (n + m) * de.bytes ≤ 140737488355328) :
    (Builtin.append_ #[t, t2] ty #[.slice b n cap, yv]).run P w =
      .ok (.slice (some ⟨w.heap.size, 0, none⟩) (n + m) (grownCap w (n + m) cap e))
        (w.drew.alloc (.cells (olds ++ news ++ (Builtin.zeroCells z.cells (grownCap w (n + m) cap e - (n + m))).toList).toArray e)) := by
  obtain ⟨_, i', z', hi', hsz, hby, hz', _⟩ := td_spec he
  rw [hi] at hi'
  cases hi'
  have hn : ¬ (n + m ≤ cap) := by omega
  have h63' : ¬ (9223372036854775807 < ((n : Int) + (m : Int))) := by omega
  have hff := growslice_fits (need := n + m) (old := cap) (bytes := i.bytes) (by omega) (by rw [hby]; exact hfit)
  have h48' : ¬ (281474976710656 < Builtin.nextslicecap (n + m) cap * i.bytes) := by omega
  have hf := hs.2.1 w.drew rfl
  have hfo := ho.2.1 w.drew rfl
  have hl := hs.1
  rw [← hsz] at hf hfo
  have fin : (olds.toArray ++ news.toArray ++ Builtin.zeroCells z.cells (grownCap w (n + m) cap e - (n + m))) = (olds ++ news ++ (Builtin.zeroCells z.cells (grownCap w (n + m) cap e - (n + m))).toList).toArray := by
    apply Array.ext'
    simp
  rw [← fin]
  rcases notInt_spec hn2 with ⟨e2, hu2⟩ | hu2 <;>
    (simp [Builtin.append_, run_und hd, hde, run_und hd2, hu2, sizeOf, typeInfo, zeroValue, hi, hz, hl, hn, h63', h48', Question.forced, hf, hfo, newRow, grownCap]
     try (congr 2; apply Array.ext'; simp))

theorem run_append_fit (t t2 ty e : TypeId) (d d2 de : TD) (hd : td P t = some d) (hde : d.u = .slice e) (he : td P e = some de)
    (hd2 : td P t2 = some d2) (hn2 : notInt d2.u = true)
    (g n cap : Nat) (cur : Array Value) (e' : TypeId) (hgr : w.heap[g]? = some (.cells cur e' (0, 0))) (yv : Value) (m : Nat) (news : List Value) (hs : Src P w de.size yv m news)
    (hnl : news.length = m * de.size) (hg : n + m ≤ cap) (hfit : (n + m) * de.size ≤ cur.size) :
    (Builtin.append_ #[t, t2] ty #[.slice (some ⟨g, 0, none⟩) n cap, yv]).run P w =
      .ok (.slice (some ⟨g, 0, none⟩) (n + m) cap) (w.setRow g (cur.toList.take (n * de.size) ++ news ++ cur.toList.drop (n * de.size + news.length)).toArray) := by
  obtain ⟨_, i, z, hi, hsz, hby, hz, _⟩ := td_spec he
  have hf := hs.2.1 w rfl
  have hl := hs.1
  rw [← hsz] at hf
  have hst := run_storeCells_at P g (n * i.size) e' news 0 cur w hgr (by rw [hnl, Nat.add_zero, hsz, ← Nat.add_mul]; exact hfit) hs.2.2
  simp only [Nat.add_zero] at hst
  rw [hsz] at hst
  rw [hsz] at hf
  rcases notInt_spec hn2 with ⟨e2, hu2⟩ | hu2 <;>
    simp [Builtin.append_, run_und hd, hde, run_und hd2, hu2, run_size he, hl, hg, hf, addr_add, hst]

theorem run_append_nothing (t t2 ty e : TypeId) (d d2 de : TD) (hd : td P t = some d) (hde : d.u = .slice e) (he : td P e = some de)
    (hd2 : td P t2 = some d2) (hn2 : notInt d2.u = true) (b : Option Addr) (n : Nat) (yv : Value) (hs : Src P w de.size yv 0 []) :
    (Builtin.append_ #[t, t2] ty #[.slice b n n, yv]).run P w = .ok (.slice b n n) w := by
  obtain ⟨_, i, z, hi, hsz, hby, hz, _⟩ := td_spec he
  have hf := hs.2.1 w rfl
  have hl := hs.1
  rw [← hsz] at hf
  rw [hsz] at hf
  cases b with
  | none => rcases notInt_spec hn2 with ⟨e2, hu2⟩ | hu2 <;> simp [Builtin.append_, run_und hd, hde, run_und hd2, hu2, run_size he, hl, hf]
  | some ad => rcases notInt_spec hn2 with ⟨e2, hu2⟩ | hu2 <;> simp [Builtin.append_, run_und hd, hde, run_und hd2, hu2, run_size he, hl, hf, storeCells]

/-! Writing behind an owned row. -/
def more (G : Gh) (g lo hi : Nat) (cs : Array Value) (q : Place) : Gh :=
  { K := fun b o => if b = g ∧ lo ≤ o ∧ o < hi then cs[o]? else G.K b o, μ := G.μ, T := fun b => if b = g then some q else G.T b }

theorem more_le {g lo hi : Nat} {cs : Array Value} {q : Place} (hk : ∀ o, lo ≤ o → G.K g o = none) : G.Le (more G g lo hi cs q) :=
  ⟨fun b o u hu => (by
    simp only [more]
    rw [if_neg]
    · exact hu
    · rintro ⟨rfl, h2, _⟩
      rw [hk o h2] at hu; cases hu), fun _ _ x => x⟩

theorem inplace (H : WorldOK G h w) {g p lo hi : Nat} {q : Place} {cur cur' : Array Value} {e : TypeId} (ht : G.T g = some (0, p, 0)) (hg : w.heap[g]? = some (.cells cur e (0, 0)))
    (hk : ∀ o, lo ≤ o → G.K g o = none) (hm : ∀ b, G.μ b ≠ some g) (hsame : ∀ j, j < lo → cur'[j]? = cur[j]?) :
    WorldOK (more G g lo hi cur' q) h (w.setRow g cur') ∧ Frm G w (more G g lo hi cur' q) (w.setRow g cur') ∧
    ∀ (r : Place) (v : Value) (s n : Nat), r ≠ (0, p, 0) → OwnRow G w r v s n → OwnRow (more G g lo hi cur' q) (w.setRow g cur') r v s n := by
  have le := more_le (hi := hi) (cs := cur') (q := q) hk
  have hblk : (w.setRow g cur').heap[g]? = some (.cells cur' e (0, 0)) := setRow_heap w g cur cur' e (0, 0) hg
  have hoth : ∀ b, b ≠ g → (w.setRow g cur').heap[b]? = w.heap[b]? := fun b hne => setRow_other w g b cur' hne
  have own : ∀ (r : Place) (v : Value) (s n : Nat), r ≠ (0, p, 0) → OwnRow G w r v s n → OwnRow (more G g lo hi cur' q) (w.setRow g cur') r v s n := by
    intro r v s n hr O
    rcases O with O | ⟨k, cap, c, e', a1, a2, a3, a4, a5, a6⟩
    · exact .inl O
    · have hne : k ≠ g := fun e => by rw [e, ht] at a2; cases a2; exact hr rfl
      refine .inr ⟨k, cap, c, e', a1, by simp only [more]; rw [if_neg hne]; exact a2, by rw [hoth k hne]; exact a3, a4, fun o ho => ?_, a6⟩
      simp only [more]
      rw [if_neg (fun x => hne x.1)]
      exact a5 o ho
  refine ⟨⟨?_, ?_, H.dom, H.inj, ?_, ?_, ?_⟩, ⟨rfl, rfl, rfl, by simp, le, ?_⟩, own⟩
  · intro b o u hu
    simp only [more] at hu
    split at hu
    · rename_i hb
      obtain ⟨rfl, h2, h3⟩ := hb
      simp only [World.cell?, hblk]
      simpa using hu
    · rename_i hb
      by_cases hbg : b = g
      · subst hbg
        have hlt : o < lo := by
          rcases Nat.lt_or_ge o lo with hl | hl
          · exact hl
          · rw [hk o hl] at hu; cases hu
        have := H.known b o u hu
        simp only [World.cell?, hblk, hg] at this ⊢
        rw [hsame o hlt]
        exact this
      · have := H.known b o u hu
        rw [← this]
        exact World.cell?_of_block (hoth b hbg)
  · intro b cells hb
    obtain ⟨blk, cs, e', r1, r2, r3, r4⟩ := H.box b cells hb
    have hne : blk ≠ g := fun e => hm b (e ▸ r1)
    exact ⟨blk, cs, e', r1, by rw [hoth blk hne]; exact r2, r3.mono le, r4⟩
  · intro b blk hb
    have hne : blk ≠ g := fun e => hm b (e ▸ hb)
    obtain ⟨s1, s2⟩ := H.sep b blk hb
    refine ⟨fun o => ?_, ?_⟩
    · simp only [more]; rw [if_neg (fun x => hne x.1)]; exact s1 o
    · simp only [more]; rw [if_neg hne]; exact s2
  · intro b r hb
    simp only [more] at hb
    split at hb
    · subst_vars
      have := H.tlt _ _ ht
      simpa using this
    · have := H.tlt b r hb
      simpa using this
  · intro b cells off s n xs blk v hb hc hμ hv
    have hne : blk ≠ g := fun e => hm b (e ▸ hμ)
    have hv2 : w.cell? ⟨blk, off, none⟩ = some v := by rw [← hv]; exact (World.cell?_of_block (hoth blk hne)).symm
    exact own _ v s n (by simp) (H.own b cells off s n xs blk v hb hc hμ hv2)
  · intro b hb htn hmn
    have hne : b ≠ g := fun e => by rw [e, ht] at htn; cases htn
    refine ⟨hoth b hne, ?_, hmn, fun o => ?_⟩
    · simp only [more]; rw [if_neg hne]; exact htn
    · simp only [more]; rw [if_neg (fun x => hne x.1)]
end
end Go.Sx

namespace Go.Sx
open Go.RowKit

section
variable {cx : Cx} {G : Gh} {h : Hp} {w : World} {st : St} {a : Act} {o : Oper} {P : Program}

theorem run_builtin (b : Builtin) (args : Array Operand) (ts : Array TypeId) (s : Sem Value) (ho : o.op = .call { callee := .builtin b, args, argTypes := ts })
    (hb : ∀ cs, builtin b ts o.type cs (args.map a.eval) = (do pure (.value (← s)))) :
    (execOp a.eval o).run P w = (s.run P w).andThen fun v w' => .ok (.value v) w' := by
  unfold execOp
  simp only [ho, resolve, Sem.run_bind, Sem.run_pure, Result.andThen_ok, invoke]
  rw [hb]
  simp only [Sem.run_bind, Sem.run_pure]

theorem xs_olds (H : WorldOK G h w) {n s : Nat} {xs : List C} {b : Option Addr} {cap : Nat} (hlen : xs.length = n * s) (hk : xs = [] ∨ ∃ blk off, b = some ⟨blk, off, none⟩ ∧ RepK G blk off xs) :
    ∃ olds, olds.length = xs.length ∧ RepL G xs olds ∧ Src P w s (.slice b n cap) n olds := by
  rcases hk with rfl | ⟨blk, off, rfl, hk⟩
  · have hz : n * s = 0 := by simpa using hlen.symm
    refine ⟨[], rfl, by simp [RepL], fun _ => rfl, fun w' _ => ?_, by simp⟩
    cases b with
    | none => simp [Builtin.firstCells]
    | some ad => simp [Builtin.firstCells, hz, loadCells, loadCellsFrom]
  · obtain ⟨vs, v1, v2, v3, v4⟩ := hk.values
    refine ⟨vs, v1, v2, fun _ => rfl, fun w' hw' => cells_firstCells s n blk off n cap vs (by rw [v1, hlen]) fun j u hu => ?_, v4⟩
    rw [← H.known _ _ _ (v3 j u hu)]
    simp only [World.cell?, hw']

theorem size_zeroCells' (z : Array Value) (n : Nat) : (Builtin.zeroCells z n).size = n * z.size := by simp [Builtin.zeroCells]

theorem repK_of {G : Gh} {blk off : Nat} {xs : List C} {vs : List Value} (h : RepL G xs vs) (h1 : ∀ u ∈ vs, u.oneCell' = true) (hk : ∀ (j : Nat) (u : Value), vs[j]? = some u → G.K blk (off + j) = some u) : RepK G blk off xs :=
  RepK.of_get fun i x hx => by
    obtain ⟨u, hu, hr⟩ := h.get i x hx
    exact ⟨u, hk i u hu, h1 u (List.mem_of_getElem? hu), hr⟩

theorem append_core (H : Pre cx G w st a) (d : Place) {t t2 ty e : TypeId} {dt d2 de : TD} (hd : td cx.P t = some dt) (hde : dt.u = .slice e) (he : td cx.P e = some de)
    (hd2 : td cx.P t2 = some d2) (hn2 : notInt d2.u = true)
    {n : Nat} {xs : List C} {k : Option Nat} {b : Option Addr} {cap : Nat} (hnc : n ≤ cap) (hcm : cap ≤ maxLen) (hk : xs = [] ∨ ∃ blk off, b = some ⟨blk, off, none⟩ ∧ RepK G blk off xs)
    (hstart : cap = n ∨ ∃ p, k = some p ∧ OwnRow G w (0, p, 0) (.slice b n cap) de.size n)
    {yv : Value} {m : Nat} {ys : List C} {news : List Value} (hnl : news.length = ys.length) (hry : RepL G ys news) (hsrc : Src cx.P w de.size yv m news)
    (h1 : xs.length = n * de.size) (h2 : ys.length = m * de.size) (h3 : 0 < de.size) (h4 : de.zero.length = de.size) (h5 : (n + m) * de.bytes ≤ 140737488355328) (h6 : n + m ≤ 9223372036854775807) :
    ∃ v w' G', (Builtin.append_ #[t, t2] ty #[.slice b n cap, yv]).run cx.P w = .ok v w' ∧ Out G w ⟨killS k st.env, st.h⟩ (av a) d (.sl (.own de.size) (n + m) (xs ++ ys)) v G' w' := by
  obtain ⟨olds, o1, o2, o3⟩ := xs_olds (P := cx.P) (cap := cap) H.ok h1 hk
  have hml : maxLen = 9223372036854775807 := by decide
  obtain ⟨_, i, z, hi, hsz, hby, hz, hzz⟩ := td_spec he
  have envk : EnvOK G w (killS k st.env) (av a) := ⟨fun t => killS_rep H.env _ t, fun t s n xs e => H.env.2 t s n xs (killS_own e).1⟩
  by_cases hgr : cap < n + m
  · -- a new row
    have hrun := run_append_more (P := cx.P) (w := w) t t2 ty e dt d2 de z i hd hde he hi hz hd2 hn2 b n cap olds o3 yv m news hsrc hgr h6 h5
    have hge := grownCap_ge w (n + m) cap e
    have hcm' : grownCap w (n + m) cap e ≤ maxLen := grownCap_le_maxLen w (n + m) cap e (by omega)
    obtain ⟨W, E⟩ := WorldOK.commit (w' := w.drew.alloc (.cells (olds ++ news ++ (Builtin.zeroCells z.cells (grownCap w (n + m) cap e - (n + m))).toList).toArray e)) H.ok (olds ++ news) (some d)
      _ e (0, 0) rfl rfl rfl rfl (by
        intro j u hu
        simp only [List.getElem?_toArray]
        rw [List.getElem?_append_left (List.getElem?_eq_some_iff.1 hu).1]
        exact hu)
    have le := E.le H.ok
    refine ⟨_, _, _, hrun, ⟨?_, ?_, W, E.env H.ok envk, E.frm H.ok⟩⟩
    · simp only [Rep]
      refine ⟨_, _, rfl, hge, hcm', by simp, .inr ⟨w.heap.size, 0, rfl, ?_⟩⟩
      refine repK_of ((o2.append hry).mono le) ?_ ?_
      · intro u hu
        rcases List.mem_append.1 hu with hu | hu
        · exact o3.2.2 u hu
        · exact hsrc.2.2 u hu
      · intro j u hu
        simp only [setT, Sx.commit, Nat.zero_add, if_true]
        exact hu
    · intro s' n' xs' e'
      cases e'
      refine .inr ⟨w.heap.size, _, _, e, rfl, by simp [setT], World.heap_new w.drew _, ?_, fun q hq => ?_, fun b' hb' => ?_⟩
      · simp only [List.size_toArray, List.length_append, Array.length_toList, size_zeroCells']
        have hzl : z.cells.size = de.size := by rw [← h4, ← hzz]; simp
        rw [o1, hnl, h1, h2, hzl, ← Nat.add_mul, ← Nat.add_mul]
        congr 1
        omega
      · simp only [setT, Sx.commit, if_true]
        rw [List.getElem?_eq_none]
        simp only [List.length_append, o1, hnl, h1, h2, ← Nat.add_mul]
        exact hq
      · have : G.μ b' = some w.heap.size := hb'
        have := H.ok.μlt this
        omega
  · have hfit : n + m ≤ cap := by omega
    have nothing : ∀ (hm0 : m = 0) (hOwn : ∃ G', G.Le G' ∧ WorldOK G' st.h w ∧ Frm G w G' w ∧ EnvOK G' w (killS k st.env) (av a) ∧ OwnRow G' w d (.slice b n cap) de.size n)
        (hrun : (Builtin.append_ #[t, t2] ty #[.slice b n cap, yv]).run cx.P w = .ok (.slice b n cap) w),
        ∃ v w' G', (Builtin.append_ #[t, t2] ty #[.slice b n cap, yv]).run cx.P w = .ok v w' ∧ Out G w ⟨killS k st.env, st.h⟩ (av a) d (.sl (.own de.size) (n + m) (xs ++ ys)) v G' w' := by
      intro hm0 hOwn hrun
      obtain ⟨G', le, W, F, Ev, O⟩ := hOwn
      have hy0 : ys = [] := List.eq_nil_of_length_eq_zero (by rw [h2, hm0, Nat.zero_mul])
      subst hm0
      refine ⟨_, _, G', hrun, ⟨?_, ?_, W, Ev, F⟩⟩
      · have : Rep G (.sl (.own de.size) n xs) (.slice b n cap) := by
          simp only [Rep]
          exact ⟨b, cap, rfl, hnc, hcm, by simp, hk⟩
        simpa [hy0] using this.mono le
      · intro s' n' xs' e'
        simp only [Nat.add_zero] at e'
        cases e'
        exact O
    by_cases hcn : cap = n
    · have hm0 : m = 0 := by omega
      have hn0 : news = [] := List.eq_nil_of_length_eq_zero (by rw [hnl, h2, hm0, Nat.zero_mul])
      subst hcn
      refine nothing hm0 ⟨G, .refl G, H.ok, Frm.refl G w, envk, .inl ⟨b, rfl⟩⟩ (run_append_nothing t t2 ty e dt d2 de hd hde he hd2 hn2 b _ yv ?_)
      rw [hm0, hn0] at hsrc
      exact hsrc
    · rcases hstart with hs | ⟨p, rfl, O⟩
      · exact absurd hs hcn
      rcases O with ⟨ad, hO⟩ | ⟨g, cap', cur, e', a1, a2, a3, a4, a5, a6⟩
      · cases hO; exact absurd rfl hcn
      cases a1
      have hcur : (n + m) * de.size ≤ cur.size := by rw [a4]; exact Nat.mul_le_mul_right _ hfit
      have hrun := run_append_fit (P := cx.P) (w := w) t t2 ty e dt d2 de hd hde he hd2 hn2 g n cap cur e' a3 yv m news hsrc (by rw [hnl, h2]) hfit hcur
      have hnd : n * de.size + news.length = (n + m) * de.size := by rw [hnl, h2, Nat.add_mul]
      have htl : (cur.toList.take (n * de.size)).length = n * de.size := by
        rw [List.length_take, Array.length_toList]; omega
      obtain ⟨W, F, Ow⟩ := inplace (G := G) (cur' := (cur.toList.take (n * de.size) ++ news ++ cur.toList.drop (n * de.size + news.length)).toArray) (hi := (n + m) * de.size) (q := d) H.ok a2 a3 a5 a6 (by
        intro j hj
        simp only [List.getElem?_toArray]
        rw [List.append_assoc, List.getElem?_append_left (by rw [htl]; exact hj), List.getElem?_take, if_pos hj]
        simp)
      have le := F.le
      refine ⟨_, _, _, hrun, ⟨?_, ?_, W, ⟨fun t => (envk.1 t).mono le, fun t s' n' xs' e'' => ?_⟩, F⟩⟩
      · simp only [Rep]
        refine ⟨_, _, rfl, hfit, hcm, by simp, .inr ⟨g, 0, rfl, ?_⟩⟩
        rcases hk with hk | ⟨blk, off, hb, hk⟩
        · have hx0 : n * de.size = 0 := by rw [← h1, hk]; rfl
          subst hk
          refine repK_of (hry.mono le) hsrc.2.2 fun j u hu => ?_
          have hj : j < news.length := (List.getElem?_eq_some_iff.1 hu).1
          simp only [more, Nat.zero_add]
          rw [if_pos ⟨trivial, by omega, by omega⟩]
          simp only [List.getElem?_toArray]
          rw [hx0]
          simp [List.getElem?_append_left hj, hu]
        · cases hb
          refine RepK.append (hk.mono le) (repK_of (hry.mono le) hsrc.2.2 fun j u hu => ?_)
          have hj : j < news.length := (List.getElem?_eq_some_iff.1 hu).1
          simp only [more, Nat.zero_add, h1]
          rw [if_pos ⟨trivial, by omega, by omega⟩]
          simp only [List.getElem?_toArray]
          rw [List.append_assoc, List.getElem?_append_right (by rw [htl]; omega), htl, Nat.add_sub_cancel_left, List.getElem?_append_left hj]
          exact hu
      · intro s' n' xs' e''
        cases e''
        refine .inr ⟨g, cap, _, e', rfl, by simp [more], setRow_heap w g cur _ e' (0, 0) a3, ?_, fun q hq => ?_, a6⟩
        · simp only [List.size_toArray, List.length_append, List.length_drop, Array.length_toList, htl]
          rw [← a4]; omega
        · simp only [more]
          rw [if_neg (by omega)]
          exact a5 q (Nat.le_trans (Nat.mul_le_mul_right _ (by omega)) hq)
      · obtain ⟨e1, e2⟩ := killS_own (env := st.env) (k := some p) e''
        have hpt : p ≠ t := by simpa using e2
        exact Ow _ _ _ _ (by simp; exact fun x => hpt x.symm) (H.env.2 t s' n' xs' e1)
end
end Go.Sx

namespace Go.Sx
open Go.RowKit

section
variable {cx : Cx} {G : Gh} {h : Hp} {w : World} {st : St} {a : Act} {o : Oper} {P : Program}

theorem fill_fold (off : Nat) : ∀ (l : List Value) (k : Nat) (cs : Array Value), off + k + l.length ≤ cs.size →
    ((l.zipIdx k).foldl (fun cs (x : Value × Nat) => cs.setIfInBounds (off + x.2) x.1) cs).toList = cs.toList.take (off + k) ++ l ++ cs.toList.drop (off + k + l.length)
  | [], k, cs, _ => by simp
  | v :: l, k, cs, hl => by
    simp only [List.zipIdx_cons, List.foldl_cons]
    rw [fill_fold off l (k + 1) (cs.setIfInBounds (off + k) v) (by simp at hl ⊢; omega)]
    have e := list_seg_step cs.toList (off + k) v l (by simp at hl ⊢; omega)
    simpa [Array.toList_setIfInBounds, Nat.add_assoc, Nat.add_comm 1] using e

theorem RepL.splice {xs ys : List C} {vs us : List Value} (hx : RepL G xs vs) (hy : RepL G ys us) (off : Nat) : RepL G (splice xs off ys) (vs.take off ++ us ++ vs.drop (off + us.length)) := by
  unfold Sx.splice
  rw [hy.length]
  exact ((hx.take off).append hy).append (hx.drop _)

theorem lay_fill {pl : Nat → Option (Nat × Nat)} : ∀ (parts : List (Nat × C)) (vals : List (Nat × Value)) (cells out : List C) (cs : Array Value),
    parts.map (·.1) = vals.map (·.1) → (∀ (i : Nat) (c : C) (v : Value), (parts.map (·.2))[i]? = some c → (vals.map (·.2))[i]? = some v → Rep G c v) →
    RepL G cells cs.toList → (∀ u ∈ cs.toList, u.oneCell' = true) → lay pl cells parts = some out →
    ∃ cs', Instr.fill pl cs vals = some cs' ∧ RepL G out cs'.toList ∧ ∀ u ∈ cs'.toList, u.oneCell' = true
  | [], vals, cells, out, cs, hm, _, hr, h1, h => by
    cases vals with
    | nil => simp only [lay, Option.some.injEq] at h; subst h; exact ⟨cs, rfl, hr, h1⟩
    | cons => simp at hm
  | (i, c) :: parts, vals, cells, out, cs, hm, hv, hr, h1, h => by
    cases vals with
    | nil => simp at hm
    | cons x vals =>
      obtain ⟨j, v⟩ := x
      simp only [List.map_cons, List.cons.injEq] at hm
      obtain ⟨rfl, hm⟩ := hm
      simp only [lay] at h
      split at h
      · rename_i off size ccs hpl hcs
        split at h
        · rename_i hb
          obtain ⟨q1, q2⟩ := cells?_rep hcs (hv 0 c v (by simp) (by simp))
          have hsz : v.cells.size = size := by rw [← hb.1, q1.length]; simp
          have hcl : cells.length = cs.size := by rw [hr.length]; simp
          have hfit : off + v.cells.size ≤ cs.size := by rw [hsz]; omega
          have hfold := fill_fold off v.cells.toList 0 cs (by simpa using hfit)
          simp only [Nat.add_zero] at hfold
          simp only [Instr.fill, hpl]
          rw [if_neg (by simp [hsz]; omega)]
          have hfe : (v.cells.zipIdx.foldl (fun cs (x : Value × Nat) => cs.setIfInBounds (off + x.2) x.1) cs) = (v.cells.toList.zipIdx.foldl (fun cs (x : Value × Nat) => cs.setIfInBounds (off + x.2) x.1) cs) := by
            rw [← Array.foldl_toList]; simp
          refine lay_fill parts vals _ out _ hm (fun k c' v' hc' hv' => hv (k + 1) c' v' (by simpa using hc') (by simpa using hv')) ?_ ?_ h
          · rw [hfe, hfold]
            exact hr.splice q1 off
          · intro u hu
            rw [hfe, hfold] at hu
            rcases List.mem_append.1 hu with hu | hu
            · rcases List.mem_append.1 hu with hu | hu
              · exact h1 u (List.mem_of_mem_take hu)
              · exact q2 u hu
            · exact h1 u (List.mem_of_mem_drop hu)
        · cases h
      · cases h

theorem zero_rep {z : Value} {zs : List Value} (hz : z.cells.toList = zs) : RepL G (zs.map .val) z.cells.toList := by
  rw [hz]
  refine RepL.of_get (by simp) fun i x v hx hv => ?_
  rw [List.getElem?_map, hv] at hx
  cases hx
  exact rep_val.2 rfl

theorem places_info : ∀ (fs : List Field) (pl : List (Nat × Nat)), fs.mapM (fun f => (td P f.type).map fun d => (f.offset, d.size)) = some pl →
    fs.mapM (fun f => (P.info? f.type).map fun i => (f.offset, i.size)) = some pl
  | [], pl, h => by simpa using h
  | f :: fs, pl, h => by
    simp only [List.mapM_cons, Option.bind_eq_bind, Option.pure_def] at h ⊢
    cases ht : td P f.type with
    | none => simp [ht] at h
    | some d =>
      obtain ⟨_, i, _, hi, hs, _⟩ := td_spec ht
      cases hr : fs.mapM (fun f => (td P f.type).map fun d => (f.offset, d.size)) with
      | none => simp [ht, hr] at h
      | some rest =>
        have := places_info fs rest hr
        simp [ht, hr] at h
        simp [hi, hs, this, h]

theorem build_ok (H : Pre cx G w st a) {t : TypeId} {d : TD} {parts : Array (Nat × Operand)} {cs : List C} (hd : td cx.P t = some d) (hz1 : d.zero.all (·.oneCell') = true)
    (h : ((places cx.P d.u).bind fun pl => lay pl (d.zero.map .val) (parts.toList.map fun x => (x.1, cx.evn st.env x.2))) = some cs) :
    ∃ v, (Instr.build t (parts.map fun (i, x) => (i, a.eval x))).run cx.P w = .ok v w ∧ Rep G (.agg cs) v := by
  obtain ⟨hu, it, z, hi, _, _, hz, hzz⟩ := td_spec hd
  cases hp : places cx.P d.u with
  | none => rw [hp] at h; cases h
  | some pl =>
    rw [hp] at h
    simp only [Option.bind_some] at h
    obtain ⟨cs', f1, f2, f3⟩ := lay_fill (G := G) (parts.toList.map fun x => (x.1, cx.evn st.env x.2)) (parts.toList.map fun x => (x.1, a.eval x.2)) _ cs z.cells
      (by simp) (by
        intro i c v hc hv
        simp only [List.map_map, List.getElem?_map] at hc hv
        cases hx : parts.toList[i]? with
        | none => rw [hx] at hc; cases hc
        | some x =>
          rw [hx] at hc hv
          cases hc; cases hv
          exact H.evn x.2)
      (zero_rep hzz) (fun u hu => by rw [hzz] at hu; exact (List.all_eq_true.1 hz1) u hu) h
    refine ⟨.agg cs', run_build w t _ cs' ?_, by simp only [Rep]; exact ⟨cs', rfl, f2, f3⟩⟩
    have hpt : (parts.map fun (i, x) => (i, a.eval x)).toList = parts.toList.map fun x => (x.1, a.eval x.2) := by simp
    rw [hpt]
    unfold Program.built
    unfold places at hp
    split at hp
    · rename_i fields hs
      cases hm : fields.toList.mapM (fun f => (td cx.P f.type).map fun d => (f.offset, d.size)) with
      | none => rw [hm] at hp; cases hp
      | some l =>
        rw [hm] at hp
        cases hp
        rw [hi, hu, hs]
        simp only [hz, places_info _ _ hm]
        have : (fun x : Nat => l.toArray[x]?) = fun i => l[i]? := by funext x; simp
        rw [this]
        exact f1
    · rename_i n e hs
      cases he : td cx.P e with
      | none => rw [he] at hp; cases hp
      | some de =>
        rw [he] at hp
        cases hp
        obtain ⟨_, ie, _, hie, hsz, _⟩ := td_spec he
        rw [hi, hu, hs]
        simp only [hz, hie, hsz]
        exact f1
    · cases hp

theorem madeCells_step (z : Array Value) (n : Nat) : (madeCells z ((n + 1) * z.size)).toList = z.toList ++ (madeCells z (n * z.size)).toList := by
  apply List.ext_getElem?
  intro i
  simp only [madeCells, Array.toList_map, Array.toList_range, List.getElem?_map]
  by_cases hi : i < z.size
  · rw [List.getElem?_append_left (by simpa using hi)]
    have h2 : i < (n + 1) * z.size := by rw [Nat.succ_mul]; omega
    simp [List.getElem?_range h2, Nat.mod_eq_of_lt hi, hi]
  · rw [List.getElem?_append_right (by simpa using hi)]
    simp only [Array.length_toList, List.getElem?_map]
    have hmul : (n + 1) * z.size = n * z.size + z.size := Nat.succ_mul n z.size
    by_cases h2 : i < (n + 1) * z.size
    · have h3 : i - z.size < n * z.size := by omega
      rw [List.getElem?_range h2, List.getElem?_range h3]
      simp only [Option.map_some, Option.some.injEq]
      rw [Nat.mod_eq_sub_mod (by omega)]
    · rw [List.getElem?_eq_none (by simpa using h2), List.getElem?_eq_none (by simp; omega)]

theorem repZero_rep (z : Array Value) (zs : List Value) (hz : z.toList = zs) : ∀ n, RepL G (repZero zs n) (madeCells z (n * z.size)).toList
  | 0 => by simp [repZero, madeCells, RepL]
  | n + 1 => by
    rw [madeCells_step]
    simp only [repZero]
    refine RepL.append ?_ (repZero_rep z zs hz n)
    subst hz
    refine RepL.of_get (by simp) fun i x v hx hv => ?_
    rw [List.getElem?_map, hv] at hx
    cases hx
    exact rep_val.2 rfl

theorem made_one (z : Array Value) (h1 : ∀ u ∈ z.toList, u.oneCell' = true) : ∀ n, ∀ u ∈ (madeCells z (n * z.size)).toList, u.oneCell' = true
  | 0 => by simp [madeCells]
  | n + 1 => by
    rw [madeCells_step]
    intro u hu
    rcases List.mem_append.1 hu with hu | hu
    · exact h1 u hu
    · exact made_one z h1 n u hu

theorem buildSlice_ok (H : Pre cx G w st a) (dp : Place) {t e : TypeId} {d de : TD} {n : Nat} {parts : Array (Nat × Operand)} {cs : List C} (hd : td cx.P t = some d) (hu : d.u = .slice e) (he : td cx.P e = some de)
    (hz1 : de.zero.all (·.oneCell') = true) (hn : n * de.size ≤ 65536 ∧ n ≤ 65536 ∧ de.zero.length = de.size)
    (h : lay (fun i => some (i * de.size, de.size)) (repZero de.zero n) (parts.toList.map fun x => (x.1, cx.evn st.env x.2)) = some cs) :
    ∃ v w' G', (Instr.buildSlice t n (parts.map fun (i, x) => (i, a.eval x))).run cx.P w = .ok v w' ∧ Out G w st (av a) dp (.sl .full n cs) v G' w' := by
  obtain ⟨_, it, z, hi, hsz, _, hz, hzz⟩ := td_spec he
  have hzs : z.cells.size = de.size := by rw [← hn.2.2, ← hzz]; simp
  have hz1' : ∀ u ∈ z.cells.toList, u.oneCell' = true := fun u hu => by rw [hzz] at hu; exact (List.all_eq_true.1 hz1) u hu
  obtain ⟨cs', f1, f2, f3⟩ := lay_fill (G := G) (parts.toList.map fun x => (x.1, cx.evn st.env x.2)) (parts.toList.map fun x => (x.1, a.eval x.2)) _ cs (madeCells z.cells (n * de.size))
      (by simp) (by
        intro i c v hc hv
        simp only [List.map_map, List.getElem?_map] at hc hv
        cases hx : parts.toList[i]? with
        | none => rw [hx] at hc; cases hc
        | some x =>
          rw [hx] at hc hv
          cases hc; cases hv
          exact H.evn x.2)
      (by rw [← hzs]; exact repZero_rep z.cells de.zero hzz n) (by rw [← hzs]; exact made_one z.cells hz1' n) h
  have hpt : (parts.map fun (i, x) => (i, a.eval x)).toList = parts.toList.map fun x => (x.1, a.eval x.2) := by simp
  have hrun : (Instr.buildSlice t n (parts.map fun (i, x) => (i, a.eval x))).run cx.P w = .ok (.slice (some ⟨w.heap.size, 0, none⟩) n n) (w.alloc (.cells cs' e)) := by
    unfold Instr.buildSlice
    have h24 : ¬ (16777216 < n * de.size) := by omega
    by_cases h0 : n * de.size = 0
    · have hm0 : (madeCells z.cells (n * de.size)) = #[] := by rw [h0]; simp [madeCells]
      rw [hm0] at f1
      simp [run_und hd, hu, run_size he, h0, newRow]
      have h00 : (Array.map (fun _ => (default : Value)) (Array.range 0)) = #[] := by simp
      rw [h00, f1]
      simp [newObj, Sem.run]
    · have hf : Instr.fill (fun i => some (i * de.size, de.size)) ((Array.range (n * de.size)).map fun x => z.cells[x % z.cells.size]!) (parts.toList.map fun x => (x.1, a.eval x.2)) = some cs' := f1
      simp [run_und hd, hu, run_size he, h0, h24, zeroValue, typeInfo, hi, hz, newRow]
      rw [hf]
      simp
  obtain ⟨W, E⟩ := WorldOK.commit (w' := w.alloc (.cells cs' e)) H.ok cs'.toList none cs' e (0, 0) rfl rfl rfl rfl (by intro j u hu; simpa using hu)
  have le := E.le H.ok
  refine ⟨_, _, _, hrun, ⟨?_, by simp, W, E.env H.ok H.env, E.frm H.ok⟩⟩
  simp only [Rep]
  have hml : maxLen = 9223372036854775807 := by decide
  refine ⟨_, _, rfl, Nat.le_refl _, by omega, by simp, .inr ⟨w.heap.size, 0, rfl, repK_of (f2.mono le) f3 fun j u hu => ?_⟩⟩
  simp only [setT, Sx.commit, if_true, Nat.zero_add]
  exact hu

/-- A new box. -/
theorem OpOK.new (H : Pre cx G w st a) {id : Nat} (hid : st.h[id]? = some none) {cells : List C} {vs : Array Value} {e : TypeId} {d : Place} {c : C} {v : Value}
    (hrun : (execOp a.eval o).run cx.P w = .ok (.value v) (w.alloc (.cells vs e))) (hr : RepL G cells vs.toList) (h1 : ∀ u ∈ vs.toList, u.oneCell' = true)
    (hno : ∀ x ∈ cells, x.noOwn) (hc : ∀ G', G'.μ id = some w.heap.size → Rep G' c v) (hcn : c.noOwn) :
    OpOK cx.P o a G w ⟨st.env, st.h.set id (some cells)⟩ d c := by
  obtain ⟨W, E⟩ := WorldOK.newBox (w' := w.alloc (.cells vs e)) H.ok id hid cells vs e rfl hr h1 (by
    intro off s n xs hx
    have := hno _ (List.mem_of_getElem? hx)
    exact this)
  exact OpOK.of_run hrun ⟨_, hc _ (by simp [setμ]), fun s n xs e => by rw [e] at hcn; exact hcn.elim, W, E.env H.ok H.env, E.frm H.ok⟩
end
end Go.Sx

namespace Go.Sx
open Go.RowKit

section
variable {cx : Cx} {G : Gh} {h : Hp} {w : World} {st : St} {a : Act} {o : Oper} {P : Program}

/-- A part of a run of cells that stands in memory. -/
theorem getAt_load {t : TypeId} {d : TD} (hd : td P t = some d) {xs : List C} {vs : List Value} {blk o0 off : Nat} {c : C} (hr : RepL G xs vs) (h1 : ∀ u ∈ vs, u.oneCell' = true)
    (hc : ∀ (j : Nat) (u : Value), vs[j]? = some u → w.cell? ⟨blk, o0 + j, none⟩ = some u) (hg : getAt d xs off = some c) :
    ∃ v, (Instr.loadAt t (.pointer (some ⟨blk, o0 + off, none⟩))).run P w = .ok v w ∧ Rep G c v ∧ c.noOwn := by
  unfold getAt at hg
  simp only [Instr.loadAt, Instr.sureAddr, Sem.run_bind, Sem.run_pure, Result.andThen_ok, loadVar, run_isAgg hd]
  split at hg
  · rename_i ha
    rw [if_pos ha]
    split at hg
    · rename_i hle
      cases hg
      have hl : ((vs.drop off).take d.size).length = d.size := by
        have := hr.length
        simp only [List.length_take, List.length_drop]; omega
      have hrun := run_loadCells_list (P := P) w ⟨blk, o0 + off, none⟩ ((vs.drop off).take d.size) (fun j v hv => by
        rw [addr_add]
        rw [List.getElem?_take] at hv
        split at hv
        · rw [List.getElem?_drop] at hv
          rw [Nat.add_assoc]
          exact hc _ v hv
        · cases hv)
      rw [hl] at hrun
      simp only [Sem.run_bind, run_size hd, Result.andThen_ok, hrun, Sem.run_pure]
      refine ⟨_, rfl, ?_, trivial⟩
      simp only [Rep]
      exact ⟨_, rfl, by simpa using ((hr.drop off).take d.size).map_noR, fun u hu => h1 u (List.mem_of_mem_drop (List.mem_of_mem_take (by simpa using hu)))⟩
    · cases hg
  · rename_i ha
    rw [if_neg ha]
    cases hx : xs[off]? with
    | none => rw [hx] at hg; cases hg
    | some x =>
      rw [hx] at hg
      cases hg
      obtain ⟨v, hv, hrv⟩ := hr.get off x hx
      have := hc off v hv
      exact ⟨v, by simp [load, Sem.run, this], hrv.noR, noOwn_noR x⟩

theorem box_cells (H : WorldOK G h w) {b : Nat} {cells : List C} (hb : h.at b = some cells) {blk : Nat} (hμ : G.μ b = some blk) :
    ∃ cs e, w.heap[blk]? = some (.cells cs e (0, 0)) ∧ RepL G cells cs.toList ∧ (∀ u ∈ cs.toList, u.oneCell' = true) ∧ ∀ (j : Nat) (u : Value), cs.toList[j]? = some u → w.cell? ⟨blk, j, none⟩ = some u := by
  obtain ⟨blk', cs, e, h1, h2, h3, h4⟩ := H.box b cells hb
  rw [hμ] at h1
  cases h1
  exact ⟨cs, e, h2, h3, h4, fun j u hu => by simp only [World.cell?, h2]; simpa using hu⟩

/-- A load. -/
theorem load_ok (H : Pre cx G w st a) {own : Bool} {t : TypeId} {x : Operand} {p : Plan} (ho : o.op = .load t x) (hp : loadPlan cx.P own t (cx.evn st.env x) = some p)
    {id : Nat} {c : C} {st' : St} (hact : act cx id p st = some (c, st')) (d : Place) : OpOK cx.P o a G w st' d c := by
  have hx := H.evn x
  have hex : (execOp a.eval o).run cx.P w = ((Instr.loadAt t (a.eval x)).run cx.P w).andThen fun v w' => .ok (.value v) w' := by
    simp only [execOp, ho, Sem.run_bind, Sem.run_pure]
  unfold loadPlan at hp
  split at hp
  · cases hp
  rename_i dt hd
  split at hp
  · rename_i b off hc
    rw [hc] at hx
    simp only [Rep] at hx
    obtain ⟨blk, hμ, hv⟩ := hx
    split at hp
    · -- with its right
      rename_i hown
      cases hp
      simp only [act, actH] at hact
      cases hb : st.h.at b with
      | none => rw [hb] at hact; cases hact
      | some cells =>
        rw [hb] at hact
        simp only [Option.bind_some] at hact
        cases hcell : cells[off]? with
        | none => rw [hcell] at hact; cases hact
        | some y =>
          rw [hcell] at hact
          simp only [Option.map_some, Option.some.injEq, Prod.mk.injEq] at hact
          obtain ⟨rfl, rfl⟩ := hact
          obtain ⟨cs, e, q1, q2, q3, q4⟩ := box_cells H.ok hb hμ
          obtain ⟨v, hv1, hv2⟩ := q2.get off y hcell
          have hrun : (execOp a.eval o).run cx.P w = .ok (.value v) w := by
            rw [hex, hv]
            have := q4 off v hv1
            simp [Instr.loadAt, Instr.sureAddr, loadVar, run_isAgg hd, hown.2, load, Sem.run, this]
          have hlenb : b < st.h.length := (List.getElem?_eq_some_iff.1 (Hp.at_some.1 hb)).1
          have hset : ∀ G' : Gh, G.Le G' → RepL G' (cells.set off y.noR) cs.toList := fun G' le => by
            refine RepL.of_get (by simpa using q2.length) fun i x u hx hu => ?_
            rw [List.getElem?_set] at hx
            split at hx
            · rename_i hio
              subst hio
              split at hx
              · cases hx
                rw [hv1] at hu
                cases hu
                exact hv2.noR.mono le
              · cases hx
            · obtain ⟨u', hu', hr'⟩ := q2.get i x hx
              rw [hu] at hu'
              cases hu'
              exact hr'.mono le
          have hself : w.setRow blk cs = w := setRow_self w blk cs e (0, 0) q1
          have oldown : ∀ (off' s n : Nat) (xs : List C) (u : Value), (cells.set off y.noR)[off']? = some (C.sl (.own s) n xs) → cs[off']? = some u → off' ≠ off ∧ OwnRow G w (1, b, off') u s n := by
            intro off' s n xs u hx hu
            rw [List.getElem?_set] at hx
            split at hx
            · split at hx
              · simp only [Option.some.injEq] at hx
                exact (noR_own hx).elim
              · cases hx
            · rename_i hne
              exact ⟨fun e => hne e.symm, H.ok.own b cells off' s n xs blk u hb hx hμ (q4 off' u (by simpa using hu))⟩
          by_cases hno : y.noOwn
          · refine OpOK.of_run hrun ⟨G, hv2, fun s n xs e => by rw [e] at hno; exact hno.elim, ?_, H.env, Frm.refl G w⟩
            have := WorldOK.setBox (G' := G) (w' := w) H.ok b blk hμ (cells.set off y.noR) cs rfl hself.symm (hset G (.refl G)) q3 (fun _ => Iff.rfl) (fun _ _ _ _ x => x)
              (fun off' s n xs u hx hu => (oldown off' s n xs u hx hu).2)
            exact this
          · obtain ⟨s, n, xs, hs⟩ : ∃ s n xs, y = .sl (.own s) n xs := by
              cases y with
              | sl r n xs => cases r with
                | own s => exact ⟨_, _, _, rfl⟩
                | no => exact absurd trivial hno
                | full => exact absurd trivial hno
              | _ => exact absurd trivial hno
            have hO := H.ok.own b cells off s n xs blk v hb (hs ▸ hcell) hμ (q4 off v hv1)
            rcases hO with hO | ⟨g, cap, cur, e', a1, a2, a3, a4, a5, a6⟩
            · refine OpOK.of_run hrun ⟨G, hv2, fun s' n' xs' e => by rw [hs] at e; cases e; exact .inl hO, ?_, H.env, Frm.refl G w⟩
              exact WorldOK.setBox (G' := G) (w' := w) H.ok b blk hμ (cells.set off y.noR) cs rfl hself.symm (hset G (.refl G)) q3 (fun _ => Iff.rfl) (fun _ _ _ _ x => x)
                (fun off' s n xs u hx hu => (oldown off' s n xs u hx hu).2)
            · have le : G.Le (setT G g (some d)) := ⟨fun _ _ _ x => x, fun _ _ x => x⟩
              have tne : ∀ {r : Place} {v' : Value} {s' n' : Nat}, r ≠ (1, b, off) → OwnRow G w r v' s' n' → OwnRow (setT G g (some d)) w r v' s' n' := by
                intro r v' s' n' hne O
                rcases O with O | ⟨g', cap', cur', e'', b1, b2, b3, b4, b5, b6⟩
                · exact .inl O
                · have hg : g' ≠ g := fun q => hne (by rw [q, a2] at b2; exact (Option.some.inj b2).symm)
                  exact .inr ⟨g', cap', cur', e'', b1, by simp only [setT]; rw [if_neg hg]; exact b2, b3, b4, b5, b6⟩
              refine OpOK.of_run hrun ⟨setT G g (some d), hv2.mono le, ?_, ?_, ⟨fun t => (H.env.1 t).mono le, fun t s' n' xs' e'' => tne (by simp) (H.env.2 t s' n' xs' e'')⟩, frm_retag a2⟩
              · intro s' n' xs' e''
                rw [hs] at e''
                cases e''
                exact .inr ⟨g, cap, cur, e', a1, by simp [setT], a3, a4, a5, a6⟩
              · refine WorldOK.setBox (G' := setT G g (some d)) (w' := w) H.ok b blk hμ (cells.set off y.noR) cs rfl hself.symm (hset _ (.refl G)) q3 (fun k => ?_) (fun k b' o' hb' hk => ?_) (fun off' s' n' xs' u hx hu => ?_)
                · simp only [setT]
                  split
                  · subst_vars; simp [a2]
                  · rfl
                · simp only [setT]
                  rw [if_neg]
                  · exact hk
                  · intro q
                    rw [q, a2] at hk
                    simp only [Option.some.injEq, Prod.mk.injEq, true_and] at hk
                    exact hb' hk.1.symm
                · obtain ⟨h1, h2⟩ := oldown off' s' n' xs' u hx hu
                  exact tne (by simp; exact h1) h2
    · cases hp
      simp only [act, actH] at hact
      cases hb : st.h.at b with
      | none => rw [hb] at hact; cases hact
      | some cells =>
        rw [hb] at hact
        simp only [Option.bind_some] at hact
        cases hg : getAt dt cells off with
        | none => rw [hg] at hact; cases hact
        | some y =>
          rw [hg] at hact
          cases hact
          obtain ⟨cs, e, q1, q2, q3, q4⟩ := box_cells H.ok hb hμ
          obtain ⟨v, hv1, hv2, hv3⟩ := getAt_load (P := cx.P) (w := w) (blk := blk) (o0 := 0) hd q2 q3 (fun j u hu => by rw [Nat.zero_add]; exact q4 j u hu) hg
          rw [Nat.zero_add] at hv1
          exact OpOK.pure H (by rw [hex, hv, hv1]; rfl) hv2 hv3
  · rename_i xs hc
    rw [hc] at hx
    simp only [Rep] at hx
    obtain ⟨blk, off, hv, hk⟩ := hx
    cases hg : getAt dt xs (loadPlan.off0) with
    | none => rw [hg] at hp; cases hp
    | some y =>
      rw [hg] at hp
      cases hp
      simp only [act, actH, Plan.pure] at hact
      cases hact
      obtain ⟨vs, v1, v2, v3, v4⟩ := hk.values
      obtain ⟨v, hv1, hv2, hv3⟩ := getAt_load (P := cx.P) (w := w) (blk := blk) (o0 := off) hd v2 v4 (fun j u hu => H.ok.known _ _ _ (v3 j u hu)) hg
      rw [show off + loadPlan.off0 = off from rfl] at hv1
      exact OpOK.pure H (by rw [hex, hv, hv1]; rfl) hv2 hv3
  · cases hp
end
end Go.Sx

namespace Go.Sx
open Go.RowKit

section
variable {cx : Cx} {G : Gh} {h : Hp} {w : World} {st : St} {a : Act} {o : Oper} {P : Program}

theorem env_setRow {b blk : Nat} (hμ : G.μ b = some blk) (cs : Array Value) {env : Nat → C} {f : Nat → Value} (E : EnvOK G w env f) : EnvOK G (w.setRow blk cs) env f := by
  refine ⟨E.1, fun t s n xs he => ?_⟩
  rcases E.2 t s n xs he with O | ⟨g, cap, cur, e', a1, a2, a3, a4, a5, a6⟩
  · exact .inl O
  · have hne : g ≠ blk := fun q => a6 b (q ▸ hμ)
    exact .inr ⟨g, cap, cur, e', a1, a2, by rw [setRow_other w blk g cs hne]; exact a3, a4, a5, a6⟩

theorem frm_setRow {G' : Gh} {b blk : Nat} (hμ : G.μ b = some blk) (cs : Array Value) (hK : G'.K = G.K) (hm : G'.μ = G.μ) (hT : ∀ g, G'.T g = none ↔ G.T g = none) : Frm G w G' (w.setRow blk cs) :=
  ⟨rfl, rfl, rfl, by simp, ⟨fun _ _ _ x => by rw [hK]; exact x, fun _ _ x => by rw [hm]; exact x⟩, fun g _ ht hmu =>
    ⟨setRow_other w blk g cs (fun q => hmu b (q ▸ hμ)), (hT g).2 ht, fun b' => by rw [hm]; exact hmu b', fun o => by rw [hK]⟩⟩

theorem run_store_at {t : TypeId} {d : TD} (hd : td P t = some d) {blk off : Nat} {cs : Array Value} {e : TypeId} (hg : w.heap[blk]? = some (.cells cs e (0, 0))) {v : Value}
    (hs : v.cells.size = d.size) (hfit : off + v.cells.size ≤ cs.size) (h1 : ∀ u ∈ v.cells.toList, u.oneCell' = true) :
    (Instr.storeAt t (.pointer (some ⟨blk, off, none⟩)) v).run P w = .ok () (w.setRow blk (cs.toList.take off ++ v.cells.toList ++ cs.toList.drop (off + v.cells.toList.length)).toArray) := by
  have := run_storeCells_at P blk off e v.cells.toList 0 cs w hg (by simpa using hfit) h1
  simp only [Nat.add_zero] at this
  simp [Instr.storeAt, Instr.sureAddr, storeVar, run_size hd, hs, this]

/-- A store of cells without rights. -/
theorem store_cells (H : Pre cx G w st a) {b blk off : Nat} (hμ : G.μ b = some blk) {cells cs : List C} (hb : st.h.at b = some cells) (hno : ∀ x ∈ cs, x.noOwn) {vs : List Value} (hr : RepL G cs vs)
    (h1 : ∀ u ∈ vs, u.oneCell' = true) (hfit : off + cs.length ≤ cells.length) :
    ∃ old e, w.heap[blk]? = some (.cells old e (0, 0)) ∧ off + vs.length ≤ old.size ∧ ∃ W : World, W = w.setRow blk (old.toList.take off ++ vs ++ old.toList.drop (off + vs.length)).toArray ∧
      WorldOK G (st.h.set b (some (splice cells off cs))) W ∧ EnvOK G W st.env (av a) ∧ Frm G w G W := by
  obtain ⟨old, e, q1, q2, q3, q4⟩ := box_cells H.ok hb hμ
  have hlen := hr.length
  have hol : old.toList.length = cells.length := q2.length.symm
  have hos : off + vs.length ≤ old.size := by rw [← hlen]; simp at hol; omega
  refine ⟨old, e, q1, hos, _, rfl, ?_, env_setRow hμ _ H.env, frm_setRow hμ _ rfl rfl fun _ => Iff.rfl⟩
  refine WorldOK.setBox (G' := G) H.ok b blk hμ _ _ rfl rfl ?_ ?_ (fun _ => Iff.rfl) (fun _ _ _ _ x => x) ?_
  · simpa using q2.splice hr off
  · intro u hu
    simp only [List.mem_append] at hu
    rcases hu with (hu | hu) | hu
    · exact q3 u (List.mem_of_mem_take hu)
    · exact h1 u hu
    · exact q3 u (List.mem_of_mem_drop hu)
  · intro off' s n xs u hx hu
    unfold splice at hx
    simp only [List.getElem?_toArray] at hu
    have htk : (cells.take off).length = off := by rw [List.length_take]; omega
    have htk' : (old.toList.take off).length = off := by rw [List.length_take]; omega
    rw [List.append_assoc] at hx hu
    by_cases h1' : off' < off
    · rw [List.getElem?_append_left (by rw [htk]; exact h1'), List.getElem?_take, if_pos h1'] at hx
      rw [List.getElem?_append_left (by rw [htk']; exact h1'), List.getElem?_take, if_pos h1'] at hu
      exact H.ok.own b cells off' s n xs blk u hb hx hμ (q4 off' u hu)
    · rw [List.getElem?_append_right (by rw [htk]; omega), htk] at hx
      rw [List.getElem?_append_right (by rw [htk']; omega), htk'] at hu
      by_cases h2' : off' - off < cs.length
      · rw [List.getElem?_append_left h2'] at hx
        exact (hno _ (List.mem_of_getElem? hx)).elim
      · rw [List.getElem?_append_right (by omega), List.getElem?_drop] at hx
        rw [List.getElem?_append_right (by rw [← hlen]; omega), List.getElem?_drop, ← hlen] at hu
        have he : off + cs.length + (off' - off - cs.length) = off' := by omega
        rw [he] at hx hu
        exact H.ok.own b cells off' s n xs blk u hb hx hμ (q4 off' u hu)

theorem store_ok (H : Pre cx G w st a) {t : TypeId} {x y : Operand} {p : Plan} (ho : o.op = .store t x y) (hp : storePlan cx.P t (cx.evn st.env x) (cx.ev st.env y) (tmp? y) = some p)
    {id : Nat} {c : C} {st' : St} (hact : act cx id p st = some (c, st')) (d : Place) : OpOK cx.P o a G w st' d c := by
  have hx := H.evn x
  have hy := H.ev y
  have hex : (execOp a.eval o).run cx.P w = ((Instr.storeAt t (a.eval x) (a.eval y)).run cx.P w).andThen fun _ w' => .ok .skip w' := by
    simp only [execOp, ho, Sem.run_bind, Sem.run_pure]
  unfold storePlan at hp
  split at hp
  · cases hp
  rename_i dt hd
  split at hp
  · rename_i b off hc
    rw [hc] at hx
    simp only [Rep] at hx
    obtain ⟨blk, hμ, hv⟩ := hx
    split at hp
    · -- one slice, with its right
      rename_i r n xs hyc
      split at hp
      · rename_i hds
        cases hp
        simp only [act, actH] at hact
        cases hb : st.h.at b with
        | none => rw [hb] at hact; cases hact
        | some cells =>
          rw [hb] at hact
          simp only [Option.bind_some] at hact
          split at hact
          · rename_i hoff
            simp only [Option.map_some, Option.some.injEq, Prod.mk.injEq] at hact
            obtain ⟨rfl, rfl⟩ := hact
            rw [hyc] at hy
            have hy0 := hy
            simp only [Rep] at hy
            obtain ⟨ad, cap, hyv, _⟩ := hy
            obtain ⟨old, e, q1, q2, q3, q4⟩ := box_cells H.ok hb hμ
            have hol : old.toList.length = cells.length := q2.length.symm
            have hos : off < old.size := by simp at hol; omega
            have hcells : (a.eval y).cells = #[a.eval y] := by rw [hyv]; rfl
            have hrun := run_store_at (P := cx.P) (w := w) hd q1 (off := off) (v := a.eval y) (by rw [hcells, hds]; rfl) (by rw [hcells]; simp; omega) (by rw [hcells]; simp [hyv]; rfl)
            rw [hcells] at hrun
            have hset : (old.toList.take off ++ #[a.eval y].toList ++ old.toList.drop (off + #[a.eval y].toList.length)).toArray = old.setIfInBounds off (a.eval y) := by
              apply Array.ext'
              simp only [Array.toList_setIfInBounds, List.length_singleton]
              rw [List.set_eq_take_append_cons_drop, if_pos (by simpa using hos)]
              simp
            rw [hset] at hrun
            have hrun' : (execOp a.eval o).run cx.P w = .ok .skip (w.setRow blk (old.setIfInBounds off (a.eval y))) := by
              rw [hex, hv, hrun]; rfl
            have rep' : ∀ G', G.Le G' → RepL G' (cells.set off (.sl r n xs)) (old.setIfInBounds off (a.eval y)).toList := fun G' le => by
              refine RepL.of_get (by simp at hol; simp; omega) fun i z u hz hu => ?_
              rw [List.getElem?_set] at hz
              simp only [Array.toList_setIfInBounds, List.getElem?_set] at hu
              split at hz
              · rename_i hio
                rw [if_pos hio] at hu
                subst hio
                try rw [if_pos hoff] at hz
                try rw [if_pos (by simpa using hos)] at hu
                cases hz; cases hu
                exact hy0.mono le
              · rename_i hio
                rw [if_neg hio] at hu
                obtain ⟨u', hu', hr'⟩ := q2.get i z hz
                rw [hu] at hu'
                cases hu'
                exact hr'.mono le
            have one' : ∀ u ∈ (old.setIfInBounds off (a.eval y)).toList, u.oneCell' = true := by
              intro u hu
              simp only [Array.toList_setIfInBounds] at hu
              rcases List.mem_or_eq_of_mem_set hu with hu | rfl
              · exact q3 u hu
              · rw [hyv]; rfl
            have oldown : ∀ (off' s n' : Nat) (xs' : List C) (u : Value), off' ≠ off → (cells.set off (.sl r n xs))[off']? = some (C.sl (.own s) n' xs') → (old.setIfInBounds off (a.eval y))[off']? = some u → OwnRow G w (1, b, off') u s n' := by
              intro off' s n' xs' u hne hz hu
              rw [List.getElem?_set, if_neg (Ne.symm hne)] at hz
              have hu2 : old.toList[off']? = some u := by
                rw [Array.getElem?_setIfInBounds, if_neg (Ne.symm hne)] at hu
                simpa using hu
              exact H.ok.own b cells off' s n' xs' blk u hb hz hμ (q4 off' u hu2)
            have envk : EnvOK G w (killS (tmp? y) st.env) (av a) := ⟨fun t => killS_rep H.env _ t, fun t s n xs e => H.env.2 t s n xs (killS_own e).1⟩
            have plain : (∀ s, r = .own s → OwnRow G w (1, b, off) (a.eval y) s n) → OpOK cx.P o a G w ⟨killS (tmp? y) st.env, st.h.set b (some (cells.set off (.sl r n xs)))⟩ d (.val undef) := fun hO => by
              refine OpOK.of_skip hrun' ⟨G, rep_val.2 rfl, by simp, ?_, env_setRow hμ _ envk, frm_setRow hμ _ rfl rfl fun _ => Iff.rfl⟩
              refine WorldOK.setBox (G' := G) H.ok b blk hμ _ _ rfl rfl (rep' G (.refl G)) one' (fun _ => Iff.rfl) (fun _ _ _ _ x => x) fun off' s n' xs' u hz hu => ?_
              by_cases hoo : off' = off
              · subst hoo
                rw [List.getElem?_set, if_pos rfl, if_pos hoff] at hz
                cases hz
                rw [Array.getElem?_setIfInBounds, if_pos rfl, if_pos hos] at hu
                cases hu
                exact hO s rfl
              · exact oldown off' s n' xs' u hoo hz hu
            cases r with
            | no => exact plain (by simp)
            | full => exact plain (by simp)
            | own s =>
              obtain ⟨q, hq⟩ : ∃ q, y = .tmp q := by
                cases y with
                | tmp q => exact ⟨q, rfl⟩
                | const v => cases hyc
                | global g => exact (noR_own hyc).elim
                | func f => cases hyc
              subst hq
              have hyc' : st.env q = .sl (.own s) n xs := hyc
              rcases H.env.2 q s n xs hyc' with O | ⟨g, cap', cur, e', a1, a2, a3, a4, a5, a6⟩
              · exact plain fun s' e' => by cases e'; exact .inl O
              · have le : G.Le (setT G g (some (1, b, off))) := ⟨fun _ _ _ x => x, fun _ _ x => x⟩
                have hTi : ∀ k, (setT G g (some (1, b, off))).T k = none ↔ G.T k = none := fun k => by
                  simp only [setT]
                  split
                  · subst_vars; simp [a2]
                  · rfl
                have tne : ∀ {r : Place} {v' : Value} {s' n' : Nat}, r ≠ (0, q, 0) → OwnRow G w r v' s' n' → OwnRow (setT G g (some (1, b, off))) w r v' s' n' := by
                  intro r v' s' n' hne O
                  rcases O with O | ⟨g', cap'', cur', e'', b1, b2, b3, b4, b5, b6⟩
                  · exact .inl O
                  · have hg : g' ≠ g := fun z => hne (by rw [z, a2] at b2; exact (Option.some.inj b2).symm)
                    exact .inr ⟨g', cap'', cur', e'', b1, by simp only [setT]; rw [if_neg hg]; exact b2, b3, b4, b5, b6⟩
                have env2 : EnvOK (setT G g (some (1, b, off))) w (killS (some q) st.env) (av a) := ⟨fun t => (killS_rep H.env (some q) t).mono le, fun t s' n' xs' e'' => by
                  obtain ⟨e1, e2⟩ := killS_own e''
                  exact tne (by simp; exact fun z => e2 (by rw [z])) (H.env.2 t s' n' xs' e1)⟩
                have W := WorldOK.setBox (G' := setT G g (some (1, b, off))) (w' := w.setRow blk (old.setIfInBounds off (a.eval (.tmp q)))) H.ok b blk hμ _ _ rfl rfl (rep' G (.refl G)) one' hTi (fun k b' o' hb' hk => by
                    simp only [setT]
                    rw [if_neg]
                    · exact hk
                    · intro z; rw [z, a2] at hk; cases hk) (fun off' s' n' xs' u hz hu => by
                    by_cases hoo : off' = off
                    · subst hoo
                      rw [List.getElem?_set, if_pos rfl, if_pos hoff] at hz
                      cases hz
                      rw [Array.getElem?_setIfInBounds, if_pos rfl, if_pos hos] at hu
                      cases hu
                      exact .inr ⟨g, cap', cur, e', a1, by simp [setT], a3, a4, a5, a6⟩
                    · exact tne (by simp) (oldown off' s' n' xs' u hoo hz hu))
                refine OpOK.of_skip hrun' ⟨setT G g (some (1, b, off)), rep_val.2 rfl, by simp, W, ?_, frm_setRow hμ _ rfl rfl hTi⟩
                have hkey := env2
                refine ⟨hkey.1, fun t s' n' xs' he => ?_⟩
                rcases hkey.2 t s' n' xs' he with O | ⟨g2, cap2, cur2, e2, c1, c2, c3, c4, c5, c6⟩
                · exact .inl O
                · have hne : g2 ≠ blk := fun z => c6 b (z ▸ hμ)
                  exact .inr ⟨g2, cap2, cur2, e2, c1, c2, by rw [setRow_other w blk g2 _ hne]; exact c3, c4, c5, c6⟩
          · cases hact
      · cases hp
    · -- cells
      rename_i hnsl
      split at hp
      · rename_i cs hcs
        split at hp
        · rename_i hlen
          cases hp
          simp only [act, actH] at hact
          cases hb : st.h.at b with
          | none => rw [hb] at hact; cases hact
          | some cells =>
            rw [hb] at hact
            simp only [Option.bind_some] at hact
            split at hact
            · rename_i hoff
              simp only [Option.map_some, Option.some.injEq, Prod.mk.injEq] at hact
              obtain ⟨rfl, rfl⟩ := hact
              obtain ⟨r1, r2⟩ := cells?_rep hcs hy
              obtain ⟨old, e, q1, q2, W, rfl, w1, w2, w3⟩ := store_cells H hμ hb (cells?_noOwn hcs) r1 r2 hoff
              have hrun := run_store_at (P := cx.P) (w := w) hd q1 (off := off) (v := a.eval y) (by rw [← hlen, r1.length]; simp) (by simpa using q2) r2
              exact OpOK.of_skip (by rw [hex, hv, hrun]; rfl) ⟨G, rep_val.2 rfl, by simp, w1, w2, w3⟩
            · cases hact
        · cases hp
      · cases hp
  · cases hp
end
end Go.Sx

namespace Go.Sx
open Go.RowKit

section
variable {cx : Cx} {G : Gh} {h : Hp} {w : World} {st : St} {a : Act} {o : Oper} {P : Program}

theorem copy_ok (H : Pre cx G w st a) {t t2 : TypeId} {x y : Operand} {p : Plan} (ho : o.op = .call { callee := .builtin .copy, args := #[x, y], argTypes := #[t, t2] })
    (hp : copyPlan cx.P t (cx.evn st.env x) (cx.evn st.env y) = some p) {id : Nat} {c : C} {st' : St} (hact : act cx id p st = some (c, st')) (d : Place) : OpOK cx.P o a G w st' d c := by
  have hx := H.evn x
  have hy := H.evn y
  have hex := run_builtin (P := cx.P) (w := w) (a := a) .copy #[x, y] #[t, t2] (Builtin.copy_ #[t, t2] o.type #[a.eval x, a.eval y]) ho (fun cs => by simp [builtin])
  unfold copyPlan at hp
  split at hp
  · cases hp
  rename_i dt hd
  split at hp
  · rename_i e hu
    split at hp
    · cases hp
    rename_i de he
    split at hp
    · rename_i b off n m ys hc hs
      split at hp
      · rename_i hlen
        cases hp
        simp only [act, actH] at hact
        cases hb : st.h.at b with
        | none => rw [hb] at hact; cases hact
        | some cells =>
          rw [hb] at hact
          simp only [Option.bind_some] at hact
          split at hact
          · rename_i hoff
            simp only [Option.map_some, Option.some.injEq, Prod.mk.injEq] at hact
            obtain ⟨rfl, rfl⟩ := hact
            rw [hc] at hx
            simp only [Rep] at hx
            obtain ⟨ad, cap, blk, hxv, hnc, hcm, hμ, had⟩ := hx
            have hadd := had (by omega)
            subst hadd
            obtain ⟨news, n1, n2, n3⟩ := src_ok (P := cx.P) H.ok hs hlen.1 hy
            have hmn : min m n * de.size ≤ n * de.size := Nat.mul_le_mul_right _ (Nat.min_le_right _ _)
            have hmm : min m n * de.size ≤ m * de.size := Nat.mul_le_mul_right _ (Nat.min_le_left _ _)
            have htl : (news.take (min m n * de.size)).length = min m n * de.size := by rw [List.length_take, n1, hlen.1]; omega
            have hyl : (ys.take (min m n * de.size)).length = min m n * de.size := by rw [List.length_take, hlen.1]; omega
            obtain ⟨old, e', q1, q2, W, rfl, w1, w2, w3⟩ := store_cells H hμ hb (cs := (ys.take (min m n * de.size)).map C.noR) (vs := news.take (min m n * de.size)) (off := off)
              (by intro z hz; obtain ⟨z', _, rfl⟩ := List.mem_map.1 hz; exact noOwn_noR z') ((n2.take _).map_noR) (fun u hu => n3.2.2 u (List.mem_of_mem_take hu)) (by rw [List.length_map, hyl]; omega)
            have hfc : (Builtin.firstCells de.size (min m n) (a.eval y)).run cx.P w = .ok (news.take (min m n * de.size)).toArray w := by
              have hf := n3.2.1 w rfl
              have hl := n3.1
              unfold src? at hs
              split at hs
              · rename_i s hys
                rw [hys, rep_val] at hy
                rw [hy] at hf ⊢
                cases hs
                simp only [Builtin.firstCells, Sem.run_pure, Result.ok.injEq, and_true] at hf ⊢
                have h1 : s.size = s.size * de.size := by simpa using hlen.1
                have hnews : news = s.data.toList.map fun b => Value.int .u8 b.toNat := by
                  have := congrArg Array.toList hf
                  have h0 : s.extract 0 s.size = s := by apply ByteArray.ext; simp
                  rw [h0] at this
                  simpa using this.symm
                rw [hnews]
                apply Array.ext'
                have hsz : s.size = 0 ∨ de.size = 1 := by
                  rcases Nat.eq_zero_or_pos s.size with h0 | h0
                  · exact .inl h0
                  · exact .inr (Nat.eq_of_mul_eq_mul_left h0 (by omega))
                rcases hsz with h0 | h0
                · have : s.data.toList = [] := List.eq_nil_of_length_eq_zero (by simpa using h0)
                  simp [this, h0, ByteArray.data_extract]
                · rw [h0, Nat.mul_one]
                  simp [ByteArray.data_extract, List.map_take]
              · rename_i c0 hne
                obtain ⟨bb, cap', hyv, _, _, hk⟩ := sl?_rep hs hy
                rw [hyv] at hf ⊢
                rcases hk with rfl | ⟨blk', off', rfl, hk⟩
                · have hz : m * de.size = 0 := by rw [← hlen.1]; rfl
                  have hn0 : news = [] := List.eq_nil_of_length_eq_zero n1
                  subst hn0
                  have hz2 : min m n * de.size = 0 := by omega
                  cases bb with
                  | none => simp [Builtin.firstCells]
                  | some ad => simp [Builtin.firstCells, hz2, loadCells, loadCellsFrom]
                · obtain ⟨vs, v1, v2, v3, v4⟩ := hk.values
                  have hfv := cells_firstCells (P := cx.P) (w' := w) de.size m blk' off' m cap' vs (by rw [v1, hlen.1]) (fun j u hu => H.ok.known _ _ _ (v3 j u hu))
                  rw [hf] at hfv
                  have hvn : news = vs := by
                    have := congrArg (fun r => match r with | Result.ok v _ => Array.toList v | _ => []) hfv
                    simpa using this
                  subst hvn
                  refine cells_firstCells de.size (min m n) blk' off' m cap' _ htl fun j u hu => ?_
                  rw [List.getElem?_take] at hu
                  split at hu
                  · exact H.ok.known _ _ _ (v3 j u hu)
                  · cases hu
            have hst := run_storeCells_at cx.P blk off e' (news.take (min m n * de.size)) 0 old w q1 (by simpa using q2) (fun u hu => n3.2.2 u (List.mem_of_mem_take hu))
            simp only [Nat.add_zero] at hst
            have hmin : Nat.min m n = min m n := rfl
            have hrun : (Builtin.copy_ #[t, t2] o.type #[a.eval x, a.eval y]).run cx.P w = .ok (.int .i64 ((min m n : Nat) : Int)) (w.setRow blk (old.toList.take off ++ news.take (min m n * de.size) ++ old.toList.drop (off + (news.take (min m n * de.size)).length)).toArray) := by
              rw [hxv]
              simp only [Builtin.copy_, List.getElem?_toArray, List.getElem?_cons_zero, List.getElem?_cons_succ, Sem.run_bind, run_und hd, hu, Result.andThen_ok, n3.1, run_size he, hmin, hfc, hst, Sem.run_pure, goInt]
            refine OpOK.of_run (by rw [hex, hrun]; rfl) ⟨G, rep_val.2 rfl, by simp, w1, w2, w3⟩
          · cases hact
      · cases hp
    · cases hp
  · cases hp

theorem u8s?_spec : ∀ {xs : List C} {ns : List Int}, u8s? xs = some ns → xs = ns.map fun n => .val (.int .u8 n)
  | [], ns, h => by simp only [u8s?, Option.some.injEq] at h; subst h; rfl
  | c :: xs, ns, h => by
    unfold u8s? at h
    split at h
    · cases h; rename_i hh; cases hh
    · rename_i n r hh
      cases hh
      cases hr : u8s? xs with
      | none => rw [hr] at h; cases h
      | some l => rw [hr] at h; cases h; rw [u8s?_spec hr]; rfl
    · cases h

theorem vals_of_ints {xs : List C} {vs : List Value} {ns : List Int} (h : u8s? xs = some ns) (hr : RepL G xs vs) : vs = ns.map (.int .u8) := by
  rw [u8s?_spec h] at hr
  apply List.ext_getElem?
  intro i
  cases hi : ns[i]? with
  | none =>
    have hl := hr.length
    simp only [List.length_map] at hl
    rw [List.getElem?_map, hi]
    rw [List.getElem?_eq_none_iff] at hi
    simp; omega
  | some n =>
    obtain ⟨v, hv, hrv⟩ := hr.get i (.val (.int .u8 n)) (by rw [List.getElem?_map, hi]; rfl)
    rw [rep_val] at hrv
    rw [hv, List.getElem?_map, hi, hrv]; rfl

theorem strOf_eq (ns : List Int) : strOf ns = strOfNums ns := rfl

theorem conv_ok (H : Pre cx G w st a) {s d : TypeId} {x : Operand} {p : Plan} (ho : o.op = .convert s d x) (hp : convPlan cx.P s d (cx.evn st.env x) = some p)
    {id : Nat} {c : C} {st' : St} (hact : act cx id p st = some (c, st')) (dp : Place) : OpOK cx.P o a G w st' dp c := by
  have hx := H.evn x
  have hex : (execOp a.eval o).run cx.P w = ((convert s d (a.eval x)).run cx.P w).andThen fun v w' => .ok (.value v) w' := by
    simp only [execOp, ho, Sem.run_bind, Sem.run_pure]
  unfold convPlan at hp
  split at hp
  · rename_i ds dd hs hd
    split at hp
    · rename_i k k' n hdu hc
      cases hp
      simp only [act, actH, Plan.pure] at hact
      cases hact
      rw [hc, rep_val] at hx
      refine OpOK.pure H ?_ (rep_val.2 rfl) trivial
      rw [hex, hx]
      simp [convert, run_und hs, run_und hd, hdu, Conv.intToInt]
    · rename_i str hdu hc
      cases hp
      simp only [act, actH, Plan.pure] at hact
      cases hact
      rw [hc, rep_val] at hx
      refine OpOK.pure H ?_ (rep_val.2 rfl) trivial
      rw [hex, hx]
      simp [convert, run_und hs, run_und hd, hdu]
    · rename_i e str hsu hdu hc
      split at hp
      · rename_i de he
        split at hp
        · rename_i heu
          split at hp
          · rename_i hle
            cases hp
            simp only [act, actH, Plan.pure] at hact
            cases hact
            rw [hc, rep_val] at hx
            have hrun := run_bytes_of_string (P := cx.P) w s d e str (hsu ▸ (td_spec hs).1) (hdu ▸ (td_spec hd).1) (heu ▸ (td_spec he).1)
            obtain ⟨W, E⟩ := WorldOK.commit (w' := w.drew.alloc (.cells (bytesRow str (grownCap w str.size 0 e)) e ((bytesRow str (grownCap w str.size 0 e)).size, (bytesRow str (grownCap w str.size 0 e)).size + 1)))
              H.ok (str.data.toList.map fun b => .int .u8 b.toNat) none _ e _ rfl rfl rfl rfl (by
                intro j u hu
                unfold bytesRow
                rw [Array.getElem?_append_left]
                · simpa using hu
                · have := (List.getElem?_eq_some_iff.1 hu).1
                  simpa using this)
            have le := E.le H.ok
            have hml : maxLen = 9223372036854775807 := by decide
            refine OpOK.fresh H (by rw [hex, hx, hrun]; rfl) E W ?_ (by simp)
            simp only [Rep]
            refine ⟨_, _, rfl, grownCap_ge w str.size 0 e, grownCap_le_maxLen w str.size 0 e (by omega), by simp, .inr ⟨w.heap.size, 0, rfl, ?_⟩⟩
            refine repK_of (vs := str.data.toList.map fun b => .int .u8 b.toNat) ?_ ?_ ?_
            · refine RepL.of_get (by simp) fun i z v hz hv => ?_
              rw [List.getElem?_map] at hz hv
              cases hb : str.data.toList[i]? with
              | none => rw [hb] at hz; cases hz
              | some b => rw [hb] at hz hv; cases hz; cases hv; exact rep_val.2 rfl
            · intro u hu
              obtain ⟨b, _, rfl⟩ := List.mem_map.1 hu
              rfl
            · intro j u hu
              simp only [setT, Sx.commit, if_true, Nat.zero_add]
              exact hu
          · cases hp
        · cases hp
      · cases hp
    · rename_i e hsu hdu hc
      split at hp
      · rename_i de he
        split at hp
        · rename_i heu
          split at hp
          · rename_i b off n hcc
            cases hp
            simp only [act, actH] at hact
            cases hb : st.h.at b with
            | none => rw [hb] at hact; cases hact
            | some cells =>
              rw [hb] at hact
              simp only [Option.bind_some] at hact
              split at hact
              · rename_i hoff
                cases hu8 : u8s? ((cells.drop off).take n) with
                | none => rw [hu8] at hact; cases hact
                | some ns =>
                  rw [hu8] at hact
                  cases hact
                  rw [hcc] at hx
                  simp only [Rep] at hx
                  obtain ⟨ad, cap, blk, hxv, hnc, hcm, hμ, had⟩ := hx
                  obtain ⟨cs, e', q1, q2, q3, q4⟩ := box_cells H.ok hb hμ
                  have hvs := vals_of_ints hu8 ((q2.drop off).take n)
                  have hnl : ns.length = n := by
                    have h1 := congrArg List.length hvs
                    have h2 := q2.length
                    simp only [List.length_take, List.length_drop, List.length_map] at h1; omega
                  refine OpOK.pure H ?_ (rep_val.2 rfl) trivial
                  rw [hex, hxv]
                  by_cases hn0 : n = 0
                  · subst hn0
                    have : ns = [] := List.eq_nil_of_length_eq_zero hnl
                    subst this
                    cases ad with
                    | none =>
                      rw [run_convert_bytes_nil (P := cx.P) w s e (hsu ▸ (td_spec hs).1) (heu ▸ (td_spec he).1) 0 cap d (hdu ▸ (td_spec hd).1)]; rfl
                    | some ad =>
                      rw [run_convert_bytes_string (P := cx.P) w s d e _ _ _ (hsu ▸ (td_spec hs).1) (heu ▸ (td_spec he).1) (hdu ▸ (td_spec hd).1),
                        run_bytesToString (P := cx.P) w ad 0 cap [] (by simp [loadCells, loadCellsFrom])]; rfl
                  · rw [had hn0]
                    rw [run_convert_bytes_arg (P := cx.P) w s e (hsu ▸ (td_spec hs).1) (heu ▸ (td_spec he).1) blk off n cap ns hnl (fun i hi => ?_) d (hdu ▸ (td_spec hd).1)]
                    · rfl
                    · have hget : ((cs.toList.drop off).take n)[i]? = some (.int .u8 (ns.getD i 0)) := by
                        rw [hvs, List.getElem?_map]
                        have : i < ns.length := by omega
                        simp [List.getElem?_eq_getElem this, List.getD]
                      rw [List.getElem?_take, if_pos hi, List.getElem?_drop] at hget
                      exact q4 _ _ hget
              · cases hact
          · rename_i hnsv
            split at hp
            · rename_i n xs hsl
              split at hp
              · rename_i hlen
                cases hu8 : u8s? xs with
                | none => rw [hu8] at hp; cases hp
                | some ns =>
                  rw [hu8] at hp
                  cases hp
                  simp only [act, actH, Plan.pure] at hact
                  cases hact
                  obtain ⟨ad, cap, hxv, hnc, hcm, hk⟩ := sl?_rep hsl hx
                  refine OpOK.pure H ?_ (rep_val.2 rfl) trivial
                  rw [hex, hxv]
                  rcases hk with rfl | ⟨blk, off, rfl, hk⟩
                  · have : ns = [] := by simp only [u8s?, Option.some.injEq] at hu8; exact hu8.symm
                    subst this
                    have hn0 : n = 0 := by rw [← hlen]; rfl
                    subst hn0
                    cases ad with
                    | none =>
                      rw [run_convert_bytes_nil (P := cx.P) w s e (hsu ▸ (td_spec hs).1) (heu ▸ (td_spec he).1) 0 cap d (hdu ▸ (td_spec hd).1)]; rfl
                    | some ad =>
                      rw [run_convert_bytes_string (P := cx.P) w s d e _ _ _ (hsu ▸ (td_spec hs).1) (heu ▸ (td_spec he).1) (hdu ▸ (td_spec hd).1),
                        run_bytesToString (P := cx.P) w ad 0 cap [] (by simp [loadCells, loadCellsFrom])]; rfl
                  · obtain ⟨vs, v1, v2, v3, v4⟩ := hk.values
                    have hvs := vals_of_ints hu8 v2
                    have hnl : ns.length = n := by
                      have h1 := congrArg List.length hvs
                      simp only [List.length_map] at h1; omega
                    rw [run_convert_bytes_arg (P := cx.P) w s e (hsu ▸ (td_spec hs).1) (heu ▸ (td_spec he).1) blk off n cap ns hnl (fun i hi => ?_) d (hdu ▸ (td_spec hd).1)]
                    · rfl
                    · have hget : vs[i]? = some (.int .u8 (ns.getD i 0)) := by
                        rw [hvs, List.getElem?_map]
                        have : i < ns.length := by omega
                        simp [List.getElem?_eq_getElem this, List.getD]
                      exact H.ok.known _ _ _ (v3 i _ hget)
              · cases hp
            · cases hp
        · cases hp
      · cases hp
    · cases hp
  · cases hp
end
end Go.Sx

namespace Go.Sx
open Go.RowKit

def cutμ (G : Gh) (k : Nat) : Gh := { G with μ := fun b => if b < k then G.μ b else none }

mutual
theorem noRef_rep {G : Gh} {k : Nat} : ∀ (c : C) (v : Value), noRef k c = true → Rep G c v → Rep (cutμ G k) c v
  | .top, _, _, _ => by simp [Rep]
  | .val u, v, _, r => by simpa [Rep] using r
  | .sl r n xs, v, hn, x => by
    simp only [noRef] at hn
    simp only [Rep] at x ⊢
    obtain ⟨a, cap, h1, h2, h3, h4, h5⟩ := x
    refine ⟨a, cap, h1, h2, h3, h4, ?_⟩
    rcases h5 with h5 | ⟨blk, off, ha, hk⟩
    · exact .inl h5
    · exact .inr ⟨blk, off, ha, noRef_repK xs blk off hn hk⟩
  | .sv b off n, v, hn, x => by
    simp only [noRef, decide_eq_true_eq] at hn
    simp only [Rep] at x ⊢
    obtain ⟨a, cap, blk, h1, h2, h3, h4, h5⟩ := x
    exact ⟨a, cap, blk, h1, h2, h3, by simp only [cutμ]; rw [if_pos hn]; exact h4, h5⟩
  | .bp b off, v, hn, x => by
    simp only [noRef, decide_eq_true_eq] at hn
    simp only [Rep] at x ⊢
    obtain ⟨blk, h1, h2⟩ := x
    exact ⟨blk, by simp only [cutμ]; rw [if_pos hn]; exact h1, h2⟩
  | .kp xs, v, hn, x => by
    simp only [noRef] at hn
    simp only [Rep] at x ⊢
    obtain ⟨blk, off, h1, h2⟩ := x
    exact ⟨blk, off, h1, noRef_repK xs blk off hn h2⟩
  | .agg xs, v, hn, x => by
    simp only [noRef] at hn
    simp only [Rep] at x ⊢
    obtain ⟨vs, h1, h2, h3⟩ := x
    exact ⟨vs, h1, noRef_repL xs _ hn h2, h3⟩
  | .tup xs, v, hn, x => by
    simp only [noRef] at hn
    simp only [Rep] at x ⊢
    obtain ⟨vs, h1, h2⟩ := x
    exact ⟨vs, h1, noRef_repL xs _ hn h2⟩
  | .fn f xs, v, hn, x => by
    simp only [noRef] at hn
    simp only [Rep] at x ⊢
    obtain ⟨vs, h1, h2⟩ := x
    exact ⟨vs, h1, noRef_repL xs _ hn h2⟩
theorem noRef_repL {G : Gh} {k : Nat} : ∀ (xs : List C) (vs : List Value), noRefs k xs = true → RepL G xs vs → RepL (cutμ G k) xs vs
  | [], vs, _, r => by simpa [RepL] using r
  | x :: xs, vs, hn, r => by
    simp only [noRefs, Bool.and_eq_true] at hn
    simp only [RepL] at r ⊢
    obtain ⟨v, vs', h1, h2, h3⟩ := r
    exact ⟨v, vs', h1, noRef_rep x v hn.1 h2, noRef_repL xs vs' hn.2 h3⟩
theorem noRef_repK {G : Gh} {k : Nat} : ∀ (xs : List C) (blk off : Nat), noRefs k xs = true → RepK G blk off xs → RepK (cutμ G k) blk off xs
  | [], _, _, _, _ => by simp [RepK]
  | x :: xs, blk, off, hn, r => by
    simp only [noRefs, Bool.and_eq_true] at hn
    simp only [RepK] at r ⊢
    obtain ⟨⟨u, h1, h2, h3⟩, h4⟩ := r
    exact ⟨⟨u, h1, h2, noRef_rep x u hn.1 h3⟩, noRef_repK xs blk (off + 1) hn.2 h4⟩
end

/-- A function that is entered when it is called. -/
def Entered (P : Program) (f : Nat) : Prop := ∃ fn, P.funcs[f]? = some fn ∧ (fn.name == "runtime.NumGoroutine") = false ∧ fn.body.isNone = false

/-- A function's contract: it takes values that read as args, boxes that read as h, and gives a value that reads as c, boxes that read as h'. -/
def FC (P : Program) (gl : Nat → C) (f : Nat) (args : List C) (h : Hp) (c : C) (h' : Hp) : Prop :=
  Entered P f ∧ ∀ (G : Gh) (w : World) (vs : Array Value), WorldOK G h w → (∀ g p, G.T g = some p → p.1 = 1) → (∀ g, Rep G (gl g) (.pointer (some ⟨g, 0, none⟩))) → RepL G args vs.toList →
    Calls P f vs w fun e w' => ∃ v G', e = .returned v ∧ Rep G' c v ∧ (∀ s n xs, c = .sl (.own s) n xs → OwnRow G' w' (2, 0, 0) v s n) ∧ WorldOK G' h' w' ∧ Frm G w G' w'

def frz (h : Hp) : C → C
  | .sv b off n => match h.at b with
    | some cells => if off + n ≤ cells.length then .sl .no n (((cells.drop off).take n).map C.noR) else .sv b off n
    | none => .sv b off n
  | .bp b off => match h.at b with
    | some cells => .kp ((cells.drop off).map C.noR)
    | none => .bp b off
  | c => c
def frzs (h : Hp) : List C → List C
  | [] => []
  | c :: l => frz h c :: frzs h l

mutual
theorem flat_rep {G G' : Gh} : ∀ (c : C) (v : Value), flat c = true → Rep G c v → Rep G' c v
  | .val u, v, _, r => by simpa [Rep] using r
  | .agg xs, v, hn, x => by
    simp only [flat] at hn
    simp only [Rep] at x ⊢
    obtain ⟨vs, h1, h2, h3⟩ := x
    exact ⟨vs, h1, flats_rep xs _ hn h2, h3⟩
  | .tup xs, v, hn, x => by
    simp only [flat] at hn
    simp only [Rep] at x ⊢
    obtain ⟨vs, h1, h2⟩ := x
    exact ⟨vs, h1, flats_rep xs _ hn h2⟩
  | .top, _, hn, _ => by simp [flat] at hn
  | .sl _ _ _, _, hn, _ => by simp [flat] at hn
  | .sv _ _ _, _, hn, _ => by simp [flat] at hn
  | .bp _ _, _, hn, _ => by simp [flat] at hn
  | .kp _, _, hn, _ => by simp [flat] at hn
  | .fn _ _, _, hn, _ => by simp [flat] at hn
theorem flats_rep {G G' : Gh} : ∀ (xs : List C) (vs : List Value), flats xs = true → RepL G xs vs → RepL G' xs vs
  | [], vs, _, r => by simpa [RepL] using r
  | x :: xs, vs, hn, r => by
    simp only [flats, Bool.and_eq_true] at hn
    simp only [RepL] at r ⊢
    obtain ⟨v, vs', h1, h2, h3⟩ := r
    exact ⟨v, vs', h1, flat_rep x v hn.1 h2, flats_rep xs vs' hn.2 h3⟩
end

open Classical in
/-- The boxes' cells are taken as cells that nobody writes. -/
noncomputable def boxK (G : Gh) (w : World) : Gh where
  K := fun blk o => match G.K blk o with
    | some u => some u
    | none => if ∃ b, G.μ b = some blk then w.cell? ⟨blk, o, none⟩ else none
  μ := G.μ
  T := fun _ => none

theorem boxK_le (G : Gh) (w : World) : G.Le (boxK G w) := ⟨fun b o u h => by simp only [boxK, h], fun _ _ h => h⟩

theorem cell_of {w : World} {blk : Nat} {cs : Array Value} {e : TypeId} (h : w.heap[blk]? = some (.cells cs e (0, 0))) (o : Nat) (v : Value) (hv : cs.toList[o]? = some v) : w.cell? ⟨blk, o, none⟩ = some v := by
  unfold World.cell?
  rw [h]
  simpa using hv

theorem frz_rep {G : Gh} {h : Hp} {w : World} (W : WorldOK G h w) (c : C) (v : Value) (r : Rep G c v) : Rep (boxK G w) (frz h c) v := by
  have cellsK : ∀ b cells blk, h.at b = some cells → G.μ b = some blk → ∀ off m, off + m ≤ cells.length → RepK (boxK G w) blk off (((cells.drop off).take m).map C.noR) := by
    intro b cells blk hb hμ off m hle
    obtain ⟨blk', cs, e, q1, q2, q3, q4⟩ := W.box b cells hb
    rw [hμ] at q1; cases q1
    refine RepK.of_get fun i x hx => ?_
    rw [List.getElem?_map, List.getElem?_take] at hx
    split at hx
    · rw [List.getElem?_drop] at hx
      cases hc : cells[off + i]? with
      | none => rw [hc] at hx; cases hx
      | some y =>
        rw [hc] at hx
        simp only [Option.map_some, Option.some.injEq] at hx
        subst hx
        obtain ⟨u, hu, hr⟩ := q3.get (off + i) y hc
        refine ⟨u, ?_, q4 u (List.mem_of_getElem? hu), (hr.mono (boxK_le G w)).noR⟩
        have hK : G.K blk (off + i) = none := (W.sep b blk hμ).1 _
        simp only [boxK, hK]
        rw [if_pos ⟨b, hμ⟩]
        exact cell_of q2 _ _ hu
    · cases hx
  cases c with
  | sv b off n =>
    simp only [Rep] at r
    obtain ⟨a, cap, blk, h1, h2, h3, h4, h5⟩ := r
    obtain ⟨cells, hb⟩ := W.dom b blk h4
    simp only [frz, hb]
    split
    · rename_i hle
      simp only [Rep]
      refine ⟨a, cap, h1, h2, h3, by simp, ?_⟩
      by_cases hn : n = 0
      · left; subst hn; simp
      · right
        exact ⟨blk, off, h5 hn, cellsK b cells blk hb h4 off n hle⟩
    · simp only [Rep]; exact ⟨a, cap, blk, h1, h2, h3, h4, h5⟩
  | bp b off =>
    simp only [Rep] at r
    obtain ⟨blk, h1, h2⟩ := r
    obtain ⟨cells, hb⟩ := W.dom b blk h1
    simp only [frz, hb, Rep]
    refine ⟨blk, off, h2, ?_⟩
    by_cases hle : off ≤ cells.length
    · have := cellsK b cells blk hb h1 off (cells.length - off) (by omega)
      rwa [List.take_of_length_le (by simp)] at this
    · rw [List.drop_of_length_le (by omega)]; simp [RepK]
  | _ => exact r.mono (boxK_le G w)

theorem frzs_rep {G : Gh} {h : Hp} {w : World} (W : WorldOK G h w) : ∀ (as : List C) (vs : List Value), RepL G as vs → RepL (boxK G w) (frzs h as) vs
  | [], vs, r => by simpa [frzs, RepL] using r
  | c :: l, vs, r => by
    simp only [RepL, frzs] at r ⊢
    obtain ⟨v, vs', h1, h2, h3⟩ := r
    exact ⟨v, vs', h1, frz_rep W c v h2, frzs_rep W l vs' h3⟩

theorem FC.freeze {P : Program} {gl : Nat → C} {f : Nat} {args : List C} {c : C} {h : Hp} (hf : FC P gl f (frzs h args) [] c []) (ha : noRefs 0 (frzs h args) = true) (hg : ∀ g, noRef 0 (gl g) = true) (hfl : flat c = true) : FC P gl f args h c h := by
  obtain ⟨he, hf⟩ := hf
  refine ⟨he, fun G w vs W hTg hgl hr => ?_⟩
  have hn : ∀ b, Hp.at [] b = none := fun b => by simp [Hp.at]
  let G1 : Gh := { K := (boxK G w).K, μ := fun _ => none, T := fun _ => none }
  have le1 : (cutμ (boxK G w) 0).Le G1 := ⟨fun _ _ _ x => x, fun b k x => by simp [cutμ] at x⟩
  have known1 : ∀ blk off u, G1.K blk off = some u → w.cell? ⟨blk, off, none⟩ = some u := fun blk off u x => by
    have x' : (boxK G w).K blk off = some u := x
    simp only [boxK] at x'
    split at x'
    · rename_i u' hu; cases x'; exact W.known _ _ _ hu
    · split at x'
      · exact x'
      · cases x'
  refine Calls.mono (hf G1 w vs ⟨known1, (fun b cells x => by rw [hn] at x; cases x), (fun b blk x => by cases x), (fun b b' blk x => by cases x), (fun b blk x => by cases x), (fun g p x => by cases x), (fun b cells off s n xs blk v x => by rw [hn] at x; cases x)⟩
    (fun g p x => by cases x) (fun g => (noRef_rep _ _ (hg g) ((hgl g).mono (boxK_le G w))).mono le1) ((noRef_repL _ _ ha (frzs_rep W _ _ hr)).mono le1)) ?_
  rintro e w' ⟨v, G2, rfl, rv, ro, W2, F⟩
  have old := fun g (hg : g < w.heap.size) => F.old g hg rfl (fun b x => by cases x)
  have hμlt : ∀ b blk, G.μ b = some blk → blk < w.heap.size := fun b blk x => by
    obtain ⟨cells, hc⟩ := W.dom b blk x
    obtain ⟨blk', cs, e, q1, q2, q3, q4⟩ := W.box b cells hc
    rw [x] at q1; cases q1
    exact (Array.getElem?_eq_some_iff.1 q2).1
  classical
  let G3 : Gh := { K := fun blk o => if ∃ b, G.μ b = some blk then none else G2.K blk o, μ := G.μ, T := fun g => if g < w.heap.size then G.T g else none }
  have le13 : G.Le G3 := ⟨fun b o u x => by
    have hb : ¬ ∃ k, G.μ k = some b := fun ⟨k, hk⟩ => by rw [(W.sep k b hk).1 o] at x; cases x
    show (if ∃ k, G.μ k = some b then none else G2.K b o) = some u
    rw [if_neg hb]
    exact F.le.K b o u ((boxK_le G w).K b o u x), fun _ _ x => x⟩
  refine ⟨v, G3, rfl, flat_rep c v hfl rv, fun s n xs e => ?_, ⟨fun blk off u x => ?_, fun b cells hc => ?_, fun b blk x => W.dom b blk x, fun b b' blk x y => W.inj b b' blk x y, fun b blk x => ?_, fun g p x => ?_, fun b cells off s n xs blk v hc hx hm hv => ?_⟩, F.os, F.tape, F.output, F.size, le13, fun g hg ht hm => ?_⟩
  · rw [e] at hfl; cases hfl
  · have x' : (if ∃ k, G.μ k = some blk then none else G2.K blk off) = some u := x
    split at x'
    · cases x'
    · exact W2.known _ _ _ x'
  · obtain ⟨blk, cs, e, q1, q2, q3, q4⟩ := W.box b cells hc
    exact ⟨blk, cs, e, q1, (old blk (hμlt b blk q1)).1.trans q2, q3.mono le13, q4⟩
  · have hlt := hμlt b blk x
    refine ⟨fun o => ?_, ?_⟩
    · show (if ∃ k, G.μ k = some blk then none else G2.K blk o) = none
      rw [if_pos ⟨b, x⟩]
    · show (if blk < w.heap.size then G.T blk else none) = none
      rw [if_pos hlt]
      exact (W.sep b blk x).2
  · have x' : (if g < w.heap.size then G.T g else none) = some p := x
    split at x'
    · exact Nat.lt_of_lt_of_le (W.tlt g p x') F.size
    · cases x'
  · have hlt := hμlt b blk hm
    have hv' : w.cell? ⟨blk, off, none⟩ = some v := by
      rw [← hv]
      unfold World.cell?
      rw [(old blk hlt).1]
    rcases W.own b cells off s n xs blk v hc hx hm hv' with O | ⟨g, cap, cur, e, a1, a2, a3, a4, a5, a6⟩
    · exact .inl O
    · have hlt := W.tlt g _ a2
      refine .inr ⟨g, cap, cur, e, a1, ?_, (old g hlt).1.trans a3, a4, fun o ho => ?_, a6⟩
      · show (if g < w.heap.size then G.T g else none) = _
        rw [if_pos hlt]; exact a2
      · show (if ∃ k, G.μ k = some g then none else G2.K g o) = none
        have hng : ¬ ∃ k, G.μ k = some g := fun ⟨k, hk⟩ => a6 k hk
        rw [if_neg hng]
        have h1 : (boxK G w).K g o = none := by
          simp only [boxK, a5 o ho]
          rw [if_neg hng]
        exact ((old g hlt).2.2.2 o).trans h1
  · obtain ⟨b1, b2, b3, b4⟩ := old g hg
    refine ⟨b1, ?_, hm, fun o => ?_⟩
    · show (if g < w.heap.size then G.T g else none) = none
      rw [if_pos hg]; exact ht
    · have hng : ¬ ∃ k, G.μ k = some g := fun ⟨k, hk⟩ => hm k hk
      show (if ∃ k, G.μ k = some g then none else G2.K g o) = _
      rw [if_neg hng]
      refine (b4 o).trans ?_
      show (boxK G w).K g o = _
      simp only [boxK]
      cases G.K g o with
      | some u => rfl
      | none => simp only []; rw [if_neg hng]

theorem frzs1_frzs {h : Hp} {b : Nat} {cells : List C} (hb : h.at b = some cells) : ∀ as : List C, noRefs 0 (frzs1 b cells as) = true → frzs h as = frzs1 b cells as
  | [], _ => rfl
  | c :: l, hn => by
    simp only [frzs1, noRefs, Bool.and_eq_true] at hn
    have ih := frzs1_frzs hb l hn.2
    have e : frz h c = frz1 b cells c := by
      have h1 := hn.1
      cases c with
      | sv b' off n =>
        simp only [frz1] at h1 ⊢
        by_cases hc : b' = b ∧ off + n ≤ cells.length
        · rw [if_pos hc]; obtain ⟨rfl, h2⟩ := hc; simp only [frz, hb]; rw [if_pos h2]
        · rw [if_neg hc] at h1; simp [noRef] at h1
      | bp b' off =>
        simp only [frz1] at h1 ⊢
        by_cases hc : b' = b
        · rw [if_pos hc]; subst hc; simp only [frz, hb]
        · rw [if_neg hc] at h1; simp [noRef] at h1
      | _ => rfl
    simp only [frzs, frzs1, ih, e]
theorem FC.rdPu {cx : Cx} {g : Nat} {as : List C} {b : Nat} {cells : List C} {h : Hp} {c : C} (hpu : ∀ f args c, cx.pu f args = some c → ∀ h, FC cx.P cx.gl f args h c h) (hg : ∀ g, noRef 0 (cx.gl g) = true) (hb : h.at b = some cells) (hc : rdPu cx g as b cells = some c) : FC cx.P cx.gl g as h c h := by
  unfold Sx.rdPu at hc
  split at hc
  · rename_i hn
    split at hc
    · rename_i c2 hp2
      split at hc
      · rename_i hfl
        cases hc
        have e := frzs1_frzs hb as hn
        rw [← e] at hp2 hn
        exact FC.freeze (hpu _ _ _ hp2 []) hn hg hfl
      · cases hc
    · cases hc
  · cases hc
end Go.Sx

namespace Go.Sx
open Go.RowKit

structure CxOK (cx : Cx) : Prop where
  glo : ∀ g, noRef 0 (cx.gl g) = true
  pu : ∀ f args c, cx.pu f args = some c → ∀ h, FC cx.P cx.gl f args h c h
  hp : ∀ f args h c h', cx.hp f args h = some (c, h') → FC cx.P cx.gl f args h c h'

section
variable {cx : Cx} {G : Gh} {h : Hp} {w : World} {st : St} {a : Act} {o : Oper} {P : Program}

/-- What a callee may not touch is not told it. -/
def hide (G : Gh) : Gh := { G with T := fun g => match G.T g with | some p => if p.1 = 1 then some p else none | none => none }
def back (G : Gh) (n : Nat) (G' : Gh) (d : Place) : Gh :=
  { G' with T := fun g => if g < n ∧ (G.T g ≠ (hide G).T g) then G.T g else match G'.T g with | some p => if p.1 = 1 then some p else if p = (2, 0, 0) then some d else none | none => none }

theorem hide_le : G.Le (hide G) := ⟨fun _ _ _ x => x, fun _ _ x => x⟩
theorem hide_le' : (hide G).Le G := ⟨fun _ _ _ x => x, fun _ _ x => x⟩
theorem hide_none {g : Nat} (h : G.T g = none) : (hide G).T g = none := by simp [hide, h]
theorem hide_one {g : Nat} {b o : Nat} (h : G.T g = some (1, b, o)) : (hide G).T g = some (1, b, o) := by simp [hide, h]
theorem hide_slot {g : Nat} {p : Place} (h : G.T g = some p) (hp : p.1 ≠ 1) : (hide G).T g = none := by simp [hide, h, hp]

theorem hide_ok (H : WorldOK G h w) : WorldOK (hide G) h w := by
  refine ⟨H.known, fun b c hb => ?_, H.dom, H.inj, fun b k hb => ?_, fun g p hg => ?_, fun b cells off s n xs blk v hb hc hm hv => ?_⟩
  · obtain ⟨blk, cs, e, h1, h2, h3, h4⟩ := H.box b c hb
    exact ⟨blk, cs, e, h1, h2, h3.mono hide_le, h4⟩
  · obtain ⟨s1, s2⟩ := H.sep b k hb
    exact ⟨s1, hide_none s2⟩
  · cases hq : G.T g with
    | none => rw [hide_none hq] at hg; cases hg
    | some q => exact H.tlt g q hq
  · rcases H.own b cells off s n xs blk v hb hc hm hv with O | ⟨g, cap, cur, e, a1, a2, a3, a4, a5, a6⟩
    · exact .inl O
    · exact .inr ⟨g, cap, cur, e, a1, hide_one a2, a3, a4, a5, a6⟩

theorem back_old {G' : Gh} {w' : World} {h' : Hp} (H : WorldOK G h w) (F : Frm (hide G) w G' w') {g : Nat} (hg : g < w.heap.size) (hne : G.T g ≠ (hide G).T g) :
    w'.heap[g]? = w.heap[g]? ∧ G'.T g = none ∧ (∀ b, G'.μ b ≠ some g) ∧ ∀ o, G'.K g o = G.K g o := by
  obtain ⟨p, hp⟩ : ∃ p, G.T g = some p := by
    cases hq : G.T g with
    | none => rw [hide_none hq, hq] at hne; exact absurd rfl hne
    | some p => exact ⟨p, rfl⟩
  have hp1 : p.1 ≠ 1 := fun e => by
    obtain ⟨p1, b, o⟩ := p
    cases e
    rw [hide_one hp] at hne
    exact hne hp
  have hb : ∀ b, G.μ b ≠ some g := fun b hb => by
    have := (H.sep b g hb).2
    rw [hp] at this; cases this
  exact F.old g hg (hide_slot hp hp1) hb

theorem call_out (H : Pre cx G w st a) {G' : Gh} {w' : World} {h' : Hp} {c : C} {v : Value} (d : Place) (W : WorldOK G' h' w') (F : Frm (hide G) w G' w') (hr : Rep G' c v)
    (ho : ∀ s n xs, c = .sl (.own s) n xs → OwnRow G' w' (2, 0, 0) v s n) : Out G w ⟨st.env, h'⟩ (av a) d c v (back G w.heap.size G' d) w' := by
  have le0 : G'.Le (back G w.heap.size G' d) := ⟨fun _ _ _ x => x, fun _ _ x => x⟩
  have le : G.Le (back G w.heap.size G' d) := ⟨F.le.K, F.le.μ⟩
  -- a tail that the callee left with an owner is nobody's of the caller's slots
  have fresh : ∀ g p, G'.T g = some p → ¬ (g < w.heap.size ∧ G.T g ≠ (hide G).T g) := fun g p hg hh => by
    have := (back_old (h' := h') H.ok F hh.1 hh.2).2.1
    rw [hg] at this; cases this
  have own1 : ∀ {b o : Nat} {v' : Value} {s n : Nat}, OwnRow G' w' (1, b, o) v' s n → OwnRow (back G w.heap.size G' d) w' (1, b, o) v' s n := by
    intro b o v' s n O
    rcases O with O | ⟨g, cap, cur, e, a1, a2, a3, a4, a5, a6⟩
    · exact .inl O
    · exact .inr ⟨g, cap, cur, e, a1, by simp only [back]; rw [if_neg (fresh g _ a2), a2]; rfl, a3, a4, a5, a6⟩
  refine ⟨hr.mono le0, ?_, ⟨W.known, fun b cells hb => ?_, W.dom, W.inj, fun b k hb => ?_, fun g p hg => ?_, fun b cells off s n xs blk v' hb hc hm hv => own1 (W.own b cells off s n xs blk v' hb hc hm hv)⟩, ⟨fun t => (H.env.1 t).mono le, fun t s n xs he => ?_⟩, ?_⟩
  · intro s n xs e
    rcases ho s n xs e with O | ⟨g, cap, cur, e', a1, a2, a3, a4, a5, a6⟩
    · exact .inl O
    · exact .inr ⟨g, cap, cur, e', a1, by simp only [back]; rw [if_neg (fresh g _ a2), a2]; rfl, a3, a4, a5, a6⟩
  · obtain ⟨blk, cs, e, h1, h2, h3, h4⟩ := W.box b cells hb
    exact ⟨blk, cs, e, h1, h2, h3.mono le0, h4⟩
  · obtain ⟨s1, s2⟩ := W.sep b k hb
    refine ⟨s1, ?_⟩
    simp only [back]
    rw [if_neg]
    · rw [s2]
    · intro hh
      exact (back_old (h' := h') H.ok F hh.1 hh.2).2.2.1 b hb
  · simp only [back] at hg
    split at hg
    · rename_i hh; exact Nat.lt_of_lt_of_le hh.1 F.size
    · cases hq : G'.T g with
      | none => rw [hq] at hg; cases hg
      | some q => exact W.tlt g q hq
  · rcases H.env.2 t s n xs he with O | ⟨g, cap, cur, e', a1, a2, a3, a4, a5, a6⟩
    · exact .inl O
    · have hlt := H.ok.tlt g _ a2
      have hne : G.T g ≠ (hide G).T g := by rw [a2, hide_slot a2 (by simp)]; simp
      obtain ⟨b1, b2, b3, b4⟩ := back_old (h' := h') H.ok F hlt hne
      exact .inr ⟨g, cap, cur, e', a1, by simp only [back]; rw [if_pos ⟨hlt, hne⟩]; exact a2, by rw [b1]; exact a3, a4, fun q hq => by show G'.K g q = none; rw [b4]; exact a5 q hq, b3⟩
  · refine ⟨F.os, F.tape, F.output, F.size, le, fun g hg ht hm => ?_⟩
    obtain ⟨b1, b2, b3, b4⟩ := F.old g hg (hide_none ht) hm
    refine ⟨b1, ?_, b3, b4⟩
    simp only [back]
    rw [if_neg (by rw [ht, hide_none ht]; simp), b2]

theorem fc_ok (H : Pre cx G w st a) {f : Operand} {args : Array Operand} {ts : Array TypeId} {g : Nat} {caps : List C} {c : C} {h' : Hp} (ho : o.op = .call { callee := .value f, args, argTypes := ts })
    (hf : cx.evn st.env f = .fn g caps) (hFC : FC cx.P cx.gl g ((args.toList.map (cx.evn st.env)).map C.share ++ caps) st.h c h') (d : Place) : OpOK cx.P o a G w ⟨st.env, h'⟩ d c := by
  have hx := H.evn f
  rw [hf] at hx
  simp only [Rep] at hx
  obtain ⟨cv, hfv, hcaps⟩ := hx
  obtain ⟨⟨fn, e1, e2, e3⟩, hcall⟩ := hFC
  have hrun : (execOp a.eval o).run cx.P w = .ok (.enter g (args.map a.eval ++ cv)) w := by
    have e2' : ¬ fn.name = "runtime.NumGoroutine" := by simpa using e2
    have e3' : ¬ fn.body = none := by cases hq : fn.body <;> simp_all
    simp [execOp, ho, resolve, hfv, Deferred.ofValue, invoke, callFunc, e1, e2', e3', program, Sem.run]
  have hargs : RepL (hide G) ((args.toList.map (cx.evn st.env)).map C.share ++ caps) (args.map a.eval ++ cv).toList := by
    simp only [Array.toList_append, Array.toList_map]
    refine RepL.append ?_ (hcaps.mono hide_le)
    refine RepL.of_get (by simp) fun i x v hxx hv => ?_
    simp only [List.map_map, List.getElem?_map] at hxx hv
    cases hq : args.toList[i]? with
    | none => rw [hq] at hxx; cases hxx
    | some q =>
      rw [hq] at hxx hv
      cases hxx; cases hv
      exact (share_rep (H.evn q)).mono hide_le
  intro K Q hK
  unfold Oper.wp
  rw [hrun]
  simp only [Oper.upon]
  refine (hcall (hide G) w _ (hide_ok H.ok) (fun g p hg => ?_) (fun g => (H.glob g).mono hide_le) hargs).mono ?_
  · simp only [hide] at hg
    cases hq : G.T g with
    | none => rw [hq] at hg; cases hg
    | some q =>
      rw [hq] at hg
      simp only [] at hg
      split at hg
      · cases hg; assumption
      · cases hg
  · rintro e w' ⟨v, G', rfl, q1, q2, q3, q4⟩
    exact hK v _ w' (call_out H d q3 q4 q1 q2)

theorem OpOK.of_val (H : Pre cx G w st a) {d : Place} {s : Sem Value} (hex : (execOp a.eval o).run cx.P w = (s.run cx.P w).andThen fun v w' => .ok (.value v) w') {p : Plan} {id : Nat} {c : C} {st' : St} (hact : act cx id p st = some (c, st'))
    (h : ∃ c v, p = .val c none ∧ c.noOwn ∧ s.run cx.P w = .ok v w ∧ Rep G c v) : OpOK cx.P o a G w st' d c := by
  obtain ⟨c', v, rfl, hno, hrun, hr⟩ := h
  simp only [act, actH] at hact
  cases hact
  exact OpOK.pure H (by rw [hex, hrun]; rfl) hr hno

theorem agg_noOwn (cs : List C) : (C.agg cs).noOwn := trivial

theorem append_ok (H : Pre cx G w st a) {t t2 : TypeId} {x y : Operand} {p : Plan} (ho : o.op = .call { callee := .builtin .append, args := #[x, y], argTypes := #[t, t2] })
    (hp : appendPlan cx.P t t2 (cx.ev st.env x) (cx.evn st.env y) (tmp? x) = some p) {id : Nat} {c : C} {st' : St} (hact : act cx id p st = some (c, st')) (d : Place) : OpOK cx.P o a G w st' d c := by
  have hx := H.ev x
  have hy := H.evn y
  have hex := run_builtin (P := cx.P) (w := w) (a := a) .append #[x, y] #[t, t2] (Builtin.append_ #[t, t2] o.type #[a.eval x, a.eval y]) ho (fun cs => by simp [builtin])
  unfold appendPlan at hp
  split at hp
  · cases hp
  · cases hp
  rename_i dt d2 hd hd2
  split at hp
  · cases hp
  rename_i hn2
  split at hp
  · rename_i e hu
    split at hp
    · cases hp
    rename_i de he
    simp only [] at hp
    -- where it begins
    have start : ∀ n xs k, (match cx.ev st.env x with
        | .val (.slice none 0 0) => some (0, [], none)
        | .sl .full n xs => some (n, xs, none)
        | .sl (.own s) n xs => if s = de.size then some (n, xs, tmp? x) else none
        | _ => none) = some (n, xs, k) →
        ∃ b cap, a.eval x = .slice b n cap ∧ n ≤ cap ∧ cap ≤ maxLen ∧ (xs = [] ∨ ∃ blk off, b = some ⟨blk, off, none⟩ ∧ RepK G blk off xs) ∧ (cap = n ∨ ∃ q, k = some q ∧ OwnRow G w (0, q, 0) (.slice b n cap) de.size n) := by
      intro n xs k hs
      split at hs
      · rename_i hc
        cases hs
        rw [hc, rep_val] at hx
        exact ⟨none, 0, hx, Nat.le_refl _, Nat.zero_le _, .inl rfl, .inl rfl⟩
      · rename_i n' xs' hc
        cases hs
        rw [hc] at hx
        simp only [Rep] at hx
        obtain ⟨b, cap, h1, h2, h3, h4, h5⟩ := hx
        exact ⟨b, cap, h1, h2, h3, h5, .inl (h4 trivial)⟩
      · rename_i s n' xs' hc
        split at hs
        · rename_i hsz
          cases hs
          have hx0 := hx
          rw [hc] at hx
          simp only [Rep] at hx
          obtain ⟨b, cap, h1, h2, h3, h4, h5⟩ := hx
          refine ⟨b, cap, h1, h2, h3, h5, ?_⟩
          cases x with
          | tmp q =>
            have := H.env.2 q _ _ _ hc
            have hv : av a q = .slice b n cap := h1
            rw [hv] at this
            exact .inr ⟨q, rfl, hsz ▸ this⟩
          | const v => cases hc
          | global g => exact (noR_own hc).elim
          | func f => cases hc
        · cases hs
      · cases hs
    split at hp
    · cases hp
    rename_i n xs k hs
    obtain ⟨b, cap, hxv, hnc, hcm, hk, hst⟩ := start n xs k hs
    split at hp
    · rename_i b' off m hyc
      split at hp
      · cases hp
        simp only [act, actH] at hact
        cases hb : st.h.at b' with
        | none => rw [hb] at hact; cases hact
        | some cells =>
          rw [hb] at hact
          simp only [Option.bind_some] at hact
          split at hact
          · rename_i hoff
            split at hact
            · rename_i hf
              simp only [Option.map_some, Option.some.injEq, Prod.mk.injEq] at hact
              obtain ⟨rfl, rfl⟩ := hact
              rw [hyc] at hy
              obtain ⟨news, n1, n2, n3⟩ := sv_src (P := cx.P) H.ok hb hoff hy
              obtain ⟨v, w', G', r1, r2⟩ := append_core H d (ty := o.type) hd hu he hd2 (by simpa using hn2) hnc hcm hk hst (by rw [n1, hf.2.1]) n2 n3 hf.1 hf.2.1 hf.2.2.1 hf.2.2.2.1 hf.2.2.2.2.1 hf.2.2.2.2.2
              have hset : st.h.set b' (some cells) = st.h := by
                unfold Hp.at at hb
                apply List.ext_getElem?
                intro j
                rw [List.getElem?_set]
                split
                · rename_i hj
                  subst hj
                  cases hq : st.h[b']? with
                  | none => rw [hq] at hb; cases hb
                  | some u =>
                    rw [hq] at hb
                    have hb' : u = some cells := hb
                    subst hb'
                    rw [if_pos (List.getElem?_eq_some_iff.1 hq).1]
                · rfl
              rw [hset]
              exact OpOK.of_run (by rw [hex, hxv, r1]; rfl) ⟨G', r2⟩
            · cases hact
          · cases hact
      · rename_i hkn
        have hk0 : k = none := by cases k with | none => rfl | some q => simp at hkn
        subst hk0
        cases hp
        simp only [act, actH] at hact
        cases hb : st.h.at b' with
        | none => rw [hb] at hact; cases hact
        | some cells =>
          rw [hb] at hact
          simp only [Option.bind_some] at hact
          split at hact
          · rename_i hoff
            split at hact
            · rename_i hf
              cases hact
              rw [hyc] at hy
              obtain ⟨news, n1, n2, n3⟩ := sv_src (P := cx.P) H.ok hb hoff hy
              obtain ⟨v, w', G', r1, r2⟩ := append_core H d (ty := o.type) hd hu he hd2 (by simpa using hn2) hnc hcm hk hst (by rw [n1, hf.2.1]) n2 n3 hf.1 hf.2.1 hf.2.2.1 hf.2.2.2.1 hf.2.2.2.2.1 hf.2.2.2.2.2
              exact OpOK.of_run (by rw [hex, hxv, r1]; rfl) ⟨G', r2⟩
            · cases hact
          · cases hact
    · rename_i hnsv
      split at hp
      · rename_i m ys hsrc
        split at hp
        · rename_i hf
          cases hp
          simp only [act, actH] at hact
          cases hact
          obtain ⟨news, n1, n2, n3⟩ := src_ok (P := cx.P) H.ok hsrc hf.2.1 hy
          obtain ⟨v, w', G', r1, r2⟩ := append_core H d (ty := o.type) hd hu he hd2 (by simpa using hn2) hnc hcm hk hst n1 n2 n3 hf.1 hf.2.1 hf.2.2.1 hf.2.2.2.1 hf.2.2.2.2.1 hf.2.2.2.2.2
          exact OpOK.of_run (by rw [hex, hxv, r1]; rfl) ⟨G', r2⟩
        · cases hp
      · cases hp
  · cases hp

/-- An operation does what the shadow run says. -/
theorem splan_ok (hcx : CxOK cx) (H : Pre cx G w st a) {ops : Array Oper} {p : Plan} (hp : splan cx ops o st.env = some p) {id : Nat} {c : C} {st' : St} (hact : act cx id p st = some (c, st')) (d : Place) :
    OpOK cx.P o a G w st' d c := by
  unfold splan at hp
  simp only [] at hp
  split at hp
  · -- move
    rename_i x ho
    split at hp
    · rename_i q
      cases hp
      have hrun : (execOp a.eval o).run cx.P w = .ok (.value (a.eval (.tmp q))) w := by simp only [execOp, ho, Sem.run_pure]
      split at hact
      · simp only [act, actH] at hact
        cases hact
        exact OpOK.move H (x := .tmp q) rfl hrun
      · simp only [act, actH, Plan.pure] at hact
        cases hact
        exact OpOK.pure H hrun (H.env.1 q).noR (noOwn_noR _)
    · cases hp
      simp only [act, actH, Plan.pure] at hact
      cases hact
      exact OpOK.pure H (by simp only [execOp, ho, Sem.run_pure]) (H.evn x) (noOwn_noR _)
  · -- assign
    rename_i x ho
    cases hp
    simp only [act, actH] at hact
    cases hact
    exact OpOK.move H rfl (by simp only [execOp, ho, Sem.run_pure])
  · -- pick
    rename_i b x y ho
    have hb := H.evn b
    split at hp
    · rename_i hc
      cases hp
      simp only [act, actH, Plan.pure] at hact
      cases hact
      rw [hc, rep_val] at hb
      exact OpOK.pure H (v := a.eval x) (by simp [execOp, ho, hb, asBool]) (H.evn x) (noOwn_noR _)
    · rename_i hc
      cases hp
      simp only [act, actH, Plan.pure] at hact
      cases hact
      rw [hc, rep_val] at hb
      exact OpOK.pure H (v := a.eval y) (by simp [execOp, ho, hb, asBool]) (H.evn y) (noOwn_noR _)
    · cases hp
  · -- alloc
    rename_i t ho
    split at hp
    · rename_i dt hd
      split at hp
      · rename_i hz1
        cases hp
        simp only [act, actH] at hact
        split at hact
        · rename_i hid
          cases hact
          obtain ⟨_, i, z, hi, _, _, hz, hzz⟩ := td_spec hd
          refine OpOK.new H hid (vs := z.cells) (e := t) (v := .pointer (some ⟨w.heap.size, 0, none⟩)) ?_ (zero_rep hzz) (fun u hu => by rw [hzz] at hu; exact (List.all_eq_true.1 hz1) u hu) ?_ (fun G' hG => by simp only [Rep]; exact ⟨_, hG, rfl⟩) trivial
          · simp [execOp, ho, Instr.alloc, zeroValue, typeInfo, hi, hz, newVar, newRow]
          · intro x hx
            obtain ⟨v, _, rfl⟩ := List.mem_map.1 hx
            trivial
        · cases hact
      · cases hp
    · cases hp
  · -- box
    rename_i t x ho
    cases hcs : (cx.evn st.env x).cells? with
    | none => rw [hcs] at hp; cases hp
    | some cs =>
      rw [hcs] at hp
      cases hp
      simp only [act, actH] at hact
      split at hact
      · rename_i hid
        cases hact
        obtain ⟨r1, r2⟩ := cells?_rep hcs (H.evn x)
        refine OpOK.new H hid (vs := (a.eval x).cells) (e := t) (v := .pointer (some ⟨w.heap.size, 0, none⟩)) ?_ r1 r2 (cells?_noOwn hcs) (fun G' hG => by simp only [Rep]; exact ⟨_, hG, rfl⟩) trivial
        simp [execOp, ho, Instr.box, newVar, newRow]
      · cases hact
  · -- build
    rename_i t parts ho
    split at hp
    · rename_i dt hd
      split at hp
      · cases hp
      rename_i hz1
      cases hb : ((places cx.P dt.u).bind fun pl => lay pl (dt.zero.map .val) (parts.toList.map fun x => (x.1, cx.evn st.env x.2))) with
      | none => rw [hb] at hp; cases hp
      | some cs =>
        rw [hb] at hp
        cases hp
        simp only [act, actH, Plan.pure] at hact
        cases hact
        obtain ⟨v, v1, v2⟩ := build_ok H hd (by simpa using hz1) hb
        exact OpOK.pure H (by simp only [execOp, ho, Sem.run_bind, v1, Result.andThen_ok, Sem.run_pure]) v2 trivial
    · cases hp
  · -- buildSlice
    rename_i t n parts ho
    split at hp
    · rename_i dt hd
      split at hp
      · rename_i e hu
        split at hp
        · rename_i de he
          split at hp
          · rename_i hn
            cases hb : lay (fun i => some (i * de.size, de.size)) (repZero de.zero n) (parts.toList.map fun x => (x.1, cx.evn st.env x.2)) with
            | none => rw [hb] at hp; cases hp
            | some cs =>
              rw [hb] at hp
              cases hp
              simp only [act, actH, Plan.pure] at hact
              cases hact
              obtain ⟨v, w', G', v1, v2⟩ := buildSlice_ok H d hd hu he hn.2.2.2 ⟨hn.1, hn.2.1, hn.2.2.1⟩ hb
              exact OpOK.of_run (by simp only [execOp, ho, Sem.run_bind, v1, Result.andThen_ok, Sem.run_pure]) ⟨G', v2⟩
          · cases hp
        · cases hp
      · cases hp
    · cases hp
  · -- load
    rename_i t x ho
    exact load_ok H ho hp hact d
  · -- store
    rename_i t x y ho
    exact store_ok H ho hp hact d
  · -- nilCheck
    rename_i x ho
    have hx := H.evn x
    split at hp
    · rename_i b k hc
      cases hp
      simp only [act, actH, Plan.pure] at hact
      cases hact
      rw [hc] at hx
      have hx' := hx
      simp only [Rep] at hx
      obtain ⟨blk, _, hv⟩ := hx
      exact OpOK.pure H (v := a.eval x) (by simp [execOp, ho, hv]) hx' trivial
    · rename_i xs hc
      cases hp
      simp only [act, actH, Plan.pure] at hact
      cases hact
      rw [hc] at hx
      have hx' := hx
      simp only [Rep] at hx
      obtain ⟨blk, off, hv, _⟩ := hx
      exact OpOK.pure H (v := a.eval x) (by simp [execOp, ho, hv]) hx' trivial
    · rename_i f cs hc
      cases hp
      simp only [act, actH, Plan.pure] at hact
      cases hact
      rw [hc] at hx
      have hx' := hx
      simp only [Rep] at hx
      obtain ⟨vs, hv, _⟩ := hx
      exact OpOK.pure H (v := a.eval x) (by simp [execOp, ho, hv]) hx' trivial
    · cases hp
  · -- binOp
    rename_i op t x y yt ho
    exact OpOK.of_val H (s := (do eqGuard op t x y (a.eval x) (a.eval y); binOp op t (a.eval x) (a.eval y))) (by simp only [execOp, ho, Sem.run_bind, Sem.run_pure]) hact (binPlan_ok x y (H.evn x) (H.evn y) hp)
  · -- unOp
    rename_i op t x ho
    exact OpOK.of_val H (s := Op.unary op (a.eval x)) (by simp only [execOp, ho, Sem.run_bind, Sem.run_pure]) hact (unPlan_ok (H.evn x) hp)
  · -- convert
    rename_i s t x ho
    exact conv_ok H ho hp hact d
  · -- sliceToArrayPointer
    rename_i t x ho
    have hx := H.evn x
    split at hp
    · rename_i dt hd
      split at hp
      · rename_i n e hu
        split at hp
        · rename_i de b off m he hc
          split at hp
          · rename_i hn
            cases hp
            simp only [act, actH, Plan.pure] at hact
            cases hact
            rw [hc] at hx
            simp only [Rep] at hx
            obtain ⟨ad, cap, blk, hv, hmc, _, hμ, had⟩ := hx
            have had' := had (by omega)
            subst had'
            refine OpOK.pure H (v := .pointer (some ⟨blk, off, none⟩)) ?_ (by simp only [Rep]; exact ⟨blk, hμ, rfl⟩) trivial
            have hlt : ¬ (m < n) := by omega
            simp [execOp, ho, hv, Instr.arrayAt, run_und hd, hu, hlt]
          · cases hp
        · rename_i de cc he hnsv
          split at hp
          · rename_i m xs hsl
            split at hp
            · rename_i hn
              cases hp
              simp only [act, actH, Plan.pure] at hact
              cases hact
              obtain ⟨ad, cap, hv, _, _, hk⟩ := sl?_rep hsl hx
              rcases hk with hk | ⟨blk, off, rfl, hk⟩
              · exact absurd hk hn.2.1
              refine OpOK.pure H (v := .pointer (some ⟨blk, off, none⟩)) ?_ (by simp only [Rep]; exact ⟨blk, off, rfl, hk⟩) trivial
              have hlt : ¬ (m < n) := by omega
              simp [execOp, ho, hv, Instr.arrayAt, run_und hd, hu, hlt]
            · cases hp
          · cases hp
        · cases hp
      · cases hp
    · cases hp
  · -- makeFunc
    rename_i f first caps ho
    split at hp
    · rename_i hfe
      cases hp
      simp only [act, actH, Plan.pure] at hact
      cases hact
      have hf0 : first = #[] := by simpa using hfe
      refine OpOK.pure H (v := .func (.func f) #[] (caps.map a.eval)) (by simp [execOp, ho, Instr.makeFunc, hf0]) ?_ trivial
      simp only [Rep]
      refine ⟨_, rfl, RepL.of_get (by simp) fun i x v hxx hv => ?_⟩
      simp only [Array.toList_map, List.getElem?_map] at hxx hv
      cases hq : caps.toList[i]? with
      | none => rw [hq] at hxx; cases hxx
      | some q =>
        rw [hq] at hxx hv
        cases hxx; cases hv
        exact share_rep (H.evn q)
    · cases hp
  · -- makeSlice
    rename_i t l m ho
    split at hp
    · rename_i dt k1 n k2 m' hd hl hm
      split at hp
      · rename_i e hu
        split at hp
        · rename_i de he
          split at hp
          · rename_i hb
            cases hp
            simp only [act, actH] at hact
            split at hact
            · rename_i hid
              cases hact
              obtain ⟨_, i, z, hi, hsz, hby, hz, hzz⟩ := td_spec he
              obtain ⟨b1, b2, b3, b4, b5, b6⟩ := hb
              have hzs : z.cells.size = de.size := by rw [← b5, ← hzz]; simp
              have hlv := int?_rep hl (H.evn l)
              have hmv := int?_rep hm (H.evn m)
              have hz1' : ∀ u ∈ z.cells.toList, u.oneCell' = true := fun u hu => by rw [hzz] at hu; exact (List.all_eq_true.1 b6) u hu
              subst b2
              have hrun := run_make (P := cx.P) w t e i z (hu ▸ (td_spec hd).1) hi hz k1 k2 n n b1 (Int.le_refl _) (by rw [hby]; omega) b4
              have hml : maxLen = 9223372036854775807 := by decide
              refine OpOK.new H hid (vs := madeCells z.cells (n.toNat * i.size)) (e := e) (v := .slice (some ⟨w.heap.size, 0, none⟩) n.toNat n.toNat) ?_ (by rw [hsz, ← hzs]; exact repZero_rep z.cells de.zero hzz _) (by rw [hsz, ← hzs]; exact made_one z.cells hz1' _) ?_
                (fun G' hG => by simp only [Rep]; exact ⟨_, _, w.heap.size, rfl, Nat.le_refl _, by omega, hG, fun _ => rfl⟩) trivial
              · simp only [execOp, ho, hlv, hmv, Sem.run_bind, hrun, Result.andThen_ok, Sem.run_pure]
              · intro x hx
                have : ∀ q, ∀ x ∈ repZero de.zero q, x.noOwn := by
                  intro q
                  induction q with
                  | zero => intro x hx; simp [repZero] at hx
                  | succ q ih =>
                    intro x hx
                    simp only [repZero, List.mem_append] at hx
                    rcases hx with hx | hx
                    · obtain ⟨v, _, rfl⟩ := List.mem_map.1 hx; trivial
                    · exact ih x hx
                exact this _ x hx
            · cases hact
          · cases hp
        · cases hp
      · cases hp
    · cases hp
  · -- slice
    rename_i t x lo hi mx ho
    exact OpOK.of_val H (s := Instr.sliceAt t (a.eval x) (lo.map a.eval) (hi.map a.eval) (mx.map a.eval)) (by simp only [execOp, ho, Sem.run_bind, Sem.run_pure]) hact (slicePlan_ok H hp)
  · -- fieldAddr
    rename_i t x f ho
    exact OpOK.of_val H (s := Instr.fieldAt t (a.eval x) f) (by simp only [execOp, ho, Sem.run_bind, Sem.run_pure]) hact (fieldAddrPlan_ok (H.evn x) hp)
  · -- field
    rename_i t x f ho
    exact OpOK.of_val H (s := Instr.field t (a.eval x) f) (by simp only [execOp, ho, Sem.run_bind, Sem.run_pure]) hact (fieldPlan_ok (H.evn x) hp)
  · -- indexAddr
    rename_i t x i ho
    exact OpOK.of_val H (s := Instr.indexAt t (a.eval x) (a.eval i)) (by simp only [execOp, ho, Sem.run_bind, Sem.run_pure]) hact (indexAddrPlan_ok (H.evn x) (H.evn i) hp)
  · -- index
    rename_i t x i ho
    exact OpOK.of_val H (s := Instr.index t (a.eval x) (a.eval i)) (by simp only [execOp, ho, Sem.run_bind, Sem.run_pure]) hact (indexPlan_ok (H.evn x) (H.evn i) hp)
  · -- extract
    rename_i x i ho
    have hx := H.evn x
    split at hp
    · rename_i xs hc
      cases hq : xs[i]? with
      | none => rw [hq] at hp; cases hp
      | some y =>
        rw [hq] at hp
        cases hp
        simp only [act, actH, Plan.pure] at hact
        cases hact
        rw [hc] at hx
        simp only [Rep] at hx
        obtain ⟨vs, hv, hr⟩ := hx
        obtain ⟨u, hu, hru⟩ := hr.get i y hq
        have hu' : vs[i]? = some u := by simpa using hu
        exact OpOK.pure H (v := u) (by simp [execOp, ho, hv, Instr.extract, hu']) hru.noR (noOwn_noR _)
    · cases hp
  · -- call
    rename_i cl ho
    obtain ⟨callee, args, ts⟩ := cl
    simp only [] at hp ho
    split at hp
    · split at hp
      · rename_i x t ha ht
        obtain rfl : args = #[x] := by apply Array.ext'; simpa using ha
        obtain rfl : ts = #[t] := by apply Array.ext'; simpa using ht
        exact OpOK.of_val H (run_builtin (P := cx.P) (w := w) (a := a) .len #[x] #[t] (Builtin.len_ #[t] o.type #[a.eval x]) ho (fun cs => by simp [builtin])) hact (lenPlan_ok (H.evn x) hp)
      · rename_i x y t t2 ha ht
        obtain rfl : args = #[x, y] := by apply Array.ext'; simpa using ha
        obtain rfl : ts = #[t, t2] := by apply Array.ext'; simpa using ht
        exact append_ok H ho hp hact d
      · rename_i x y t t2 ha ht
        obtain rfl : args = #[x, y] := by apply Array.ext'; simpa using ha
        obtain rfl : ts = #[t, t2] := by apply Array.ext'; simpa using ht
        exact copy_ok H ho hp hact d
      · rename_i x y ha
        obtain rfl : args = #[x, y] := by apply Array.ext'; simpa using ha
        unfold minMax at hp
        split at hp
        · rename_i k p1 k' p2 h1 h2
          split at hp
          · rename_i hk
            subst hk
            cases hp
            simp only [act, actH, Plan.pure] at hact
            cases hact
            have r1 := H.evn x
            have r2 := H.evn y
            rw [h1, rep_val] at r1
            rw [h2, rep_val] at r2
            refine OpOK.pure H ?_ (rep_val.2 rfl) trivial
            rw [run_builtin (P := cx.P) (w := w) (a := a) .min #[x, y] ts (Builtin.min_ ts o.type #[a.eval x, a.eval y]) ho (fun cs => by simp [builtin]), r1, r2]
            simp [Builtin.min_, Builtin.min2]
          · cases hp
        · cases hp
      · rename_i x y ha
        obtain rfl : args = #[x, y] := by apply Array.ext'; simpa using ha
        unfold minMax at hp
        split at hp
        · rename_i k p1 k' p2 h1 h2
          split at hp
          · rename_i hk
            subst hk
            cases hp
            simp only [act, actH, Plan.pure] at hact
            cases hact
            have r1 := H.evn x
            have r2 := H.evn y
            rw [h1, rep_val] at r1
            rw [h2, rep_val] at r2
            refine OpOK.pure H ?_ (rep_val.2 rfl) trivial
            rw [run_builtin (P := cx.P) (w := w) (a := a) .max #[x, y] ts (Builtin.max_ ts o.type #[a.eval x, a.eval y]) ho (fun cs => by simp [builtin]), r1, r2]
            simp [Builtin.max_, Builtin.max2]
          · cases hp
        · cases hp
      · cases hp
    · rename_i f
      unfold callPlan at hp
      split at hp
      · rename_i g caps hf
        simp only [] at hp
        split at hp
        · rename_i c' hpu
          cases hp
          simp only [act, actH, Plan.pure] at hact
          cases hact
          exact fc_ok H ho hf (hcx.pu _ _ _ hpu st.h) d
        · split at hp
          rename_i b hrb
          split at hp
          case h_1.isFalse =>
            cases hp
            simp only [act, actH] at hact
            cases hq : st.h.at b with
            | none => rw [hq] at hact; cases hact
            | some cells =>
              rw [hq] at hact
              simp only [Option.bind_some] at hact
              cases hr : rdPu cx g (List.map C.share (List.map (cx.evn st.env) args.toList) ++ caps) b cells with
              | none => rw [hr] at hact; cases hact
              | some c2 =>
                rw [hr] at hact
                cases hact
                exact fc_ok H ho hf (FC.rdPu hcx.pu hcx.glo hq hr) d
          all_goals
          cases hp
          simp only [act, actH] at hact
          cases hq : cx.hp g (List.map C.share (List.map (cx.evn st.env) args.toList) ++ caps) st.h with
          | none => rw [hq] at hact; cases hact
          | some r =>
            rw [hq] at hact
            cases hact
            exact fc_ok H ho hf (hcx.hp _ _ _ _ _ hq) d
      · cases hp
    · cases hp
  · cases hp
end
end Go.Sx

namespace Go.Sx
open Go.RowKit

/-- What stands in the frame and in memory reads as the shadow state. -/
structure Sim (cx : Cx) (G : Gh) (w : World) (st : St) (a : Act) : Prop where
  defers : a.defers = []
  size : a.tmps.size = cx.N
  pre : Pre cx G w st a

section
variable {cx : Cx} {G : Gh} {w : World} {st : St} {a : Act} {P : Program}

theorem av_put_some {d : Nat} (hd : d < a.tmps.size) (v : Value) (t : Nat) : av (a.put (some d) v) t = if t = d then v else av a t := by
  simp only [av, Act.put, Array.getD_eq_getD_getElem?]
  by_cases h : t = d
  · subst h; simp [hd]
  · rw [if_neg h, Array.getElem?_setIfInBounds_ne (Ne.symm h)]

/-- What is put into a slot. -/
theorem Sim.put (H : Sim cx G w st a) {G' : Gh} {w' : World} {st' : St} {dst : Option Nat} {c : C} {v : Value} (hd : ∀ d, dst = some d → d < cx.N)
    (O : Out G w st' (av a) (match dst with | some d => (0, d, 0) | none => (3, 0, 0)) c v G' w') : Sim cx G' w' ⟨put dst c st'.env, st'.h⟩ (a.put dst v) := by
  have hg : ∀ g, Rep G' (cx.gl g) (.pointer (some ⟨g, 0, none⟩)) := fun g => (H.pre.glob g).mono O.frm.le
  cases dst with
  | none =>
    exact ⟨H.defers, H.size, O.ok, O.env, hg⟩
  | some d =>
    have hd' : d < a.tmps.size := by rw [H.size]; exact hd d rfl
    refine ⟨H.defers, by simp [Act.put, H.size], O.ok, ⟨fun t => ?_, fun t s n xs he => ?_⟩, hg⟩
    · rw [av_put_some hd']
      simp only [Sx.put]
      split
      · exact O.rep
      · exact O.env.1 t
    · rw [av_put_some hd']
      simp only [Sx.put] at he
      split at he
      · rename_i htd
        subst htd
        rw [if_pos rfl]
        exact O.own s n xs he
      · rename_i htd
        rw [if_neg htd]
        exact O.env.2 t s n xs he

theorem wantedS_ok (H : Sim cx G w st a) {ops : Array Oper} {o : Oper} {b : Bool} (h : wantedS ops o st.env = some b) : Region.wanted o (yielded ops a.tmps) = b := by
  unfold wantedS at h
  unfold Region.wanted
  split at h
  · rename_i hg; cases h; rw [hg]
  · rename_i j want hg
    rw [hg]
    simp only [yielded]
    split at h
    · rename_i hd; cases h; rw [hd]; rfl
    · rename_i t hd
      rw [hd]
      simp only [Option.bind_some]
      have hr := (H.pre.env.1 t).noR
      split at h
      · rename_i x hx
        cases h
        rw [hx, rep_val] at hr
        have : a.tmps[t]? = some (.bool x) := by
          simp only [av, Array.getD_eq_getD_getElem?] at hr
          cases hq : a.tmps[t]? with
          | none => rw [hq] at hr; cases hr
          | some u => rw [hq] at hr; simpa using hr
        rw [this]
        cases x <;> cases want <;> rfl
      · rename_i x hx
        cases h
        rw [hx, rep_val] at hr
        cases hq : a.tmps[t]? with
        | none => rfl
        | some u =>
          simp only [av, Array.getD_eq_getD_getElem?, hq, Option.getD_some] at hr
          subst hr
          rfl
      · cases h

/-- One operation of a region. -/
theorem step_ok (hcx : CxOK cx) (H : Sim cx G w st a) {ops : Array Oper} {base i : Nat} {st' : St} (h : step cx ops base i st = some st') {K : Act → World → Prop} {Q : Exit → Act → World → Prop}
    (hK : ∀ G' w' a', Sim cx G' w' st' a' → Frm G w G' w' → K a' w') : wpOp cx.P ops Q i K a w := by
  unfold step at h
  unfold wpOp
  split at h
  · cases h
  · rename_i o ho
    simp only [ho]
    split at h
    · rename_i hdst
      have hd : ∀ d, o.dst = some d → d < cx.N := fun d e => by rw [e] at hdst; simpa [dstOK] using hdst
      split at h
      · cases h
      · rename_i hw
        cases h
        rw [wantedS_ok H hw]
        simp only [Bool.false_eq_true, if_false]
        exact hK G w _ (H.put hd ⟨rep_val.2 rfl, by simp, H.pre.ok, H.pre.env, Frm.refl G w⟩) (Frm.refl G w)
      · rename_i hw
        rw [wantedS_ok H hw]
        simp only [if_true]
        split at h
        · cases h
        · rename_i p hp
          split at h
          · cases h
          · rename_i c st1 hact
            cases h
            refine .inl (splan_ok hcx H.pre hp hact _ K Q fun v G' w' O => hK G' w' _ (H.put hd O) O.frm)
    · cases h

theorem steps_ok (hcx : CxOK cx) {ops : Array Oper} {base : Nat} {Q : Exit → Act → World → Prop} : ∀ (l : List Nat) {G : Gh} {w : World} {st : St} {a : Act} {st' : St}, Sim cx G w st a → steps cx ops base l st = some st' →
    (∀ G' w' a', Sim cx G' w' st' a' → Frm G w G' w' → Q .normal a' w') → wpOps cx.P ops Q l a w
  | [], G, w, st, a, st', H, h, hQ => by
    simp only [steps, Option.some.injEq] at h
    subst h
    exact hQ G w a H (Frm.refl G w)
  | i :: l, G, w, st, a, st', H, h, hQ => by
    simp only [steps] at h
    cases hs : step cx ops base i st with
    | none => rw [hs] at h; cases h
    | some st1 =>
      rw [hs] at h
      rw [wpOps_cons]
      exact step_ok hcx H hs fun G' w' a' S F => steps_ok hcx l S h fun G2 w2 a2 S2 F2 => hQ G2 w2 a2 S2 (F.trans F2)

theorem at_append_none {h : Hp} (k b : Nat) : Hp.at (h ++ List.replicate k none) b = h.at b := by
  unfold Hp.at
  rw [List.getElem?_append]
  split
  · rfl
  · rename_i hb
    rw [List.getElem?_eq_none (l := h) (by omega)]
    cases hq : (List.replicate k (none : Option (List C)))[b - h.length]? with
    | none => rfl
    | some x =>
      have := List.mem_of_getElem? hq
      rw [List.eq_of_mem_replicate this]
      rfl

theorem WorldOK.reserve {h : Hp} (H : WorldOK G h w) (k : Nat) : WorldOK G (h ++ List.replicate k none) w :=
  ⟨H.known, fun b c hb => H.box b c (by rwa [at_append_none] at hb), fun b blk hb => by rw [at_append_none]; exact H.dom b blk hb, H.inj, H.sep, H.tlt,
    fun b cells off s n xs blk v hb hc hm hv => H.own b cells off s n xs blk v (by rwa [at_append_none] at hb) hc hm hv⟩

theorem Sim.reserve (H : Sim cx G w st a) (k : Nat) : Sim cx G w ⟨st.env, st.h ++ List.replicate k none⟩ a :=
  ⟨H.defers, H.size, H.pre.ok.reserve k, H.pre.env, H.pre.glob⟩

theorem Sim.drew (H : Sim cx G w st a) : Sim cx G w.drew st a ∧ Frm G w G w.drew := by
  have e : Ext G w G w.drew := Ext.same rfl rfl rfl rfl
  exact ⟨⟨H.defers, H.size, H.pre.ok.same rfl, e.env H.pre.ok H.pre.env, H.pre.glob⟩, e.frm H.pre.ok⟩

/-- A region that goes in order. -/
theorem region_ok (hcx : CxOK cx) (H : Sim cx G w st a) {id : Nat} {ops : Array Oper} {st' : St} (h : sregion cx ops st = some st') {Q : Exit → Act → World → Prop}
    (hQ : ∀ G' w' a', Sim cx G' w' st' a' → Frm G w G' w' → Q .normal a' w') : (Code.region id ops false).wp cx.P Q a w :=
  wp_region (steps_ok hcx _ (H.reserve _) h hQ)
end
end Go.Sx
