/-
   And what follows.
-/
import Derived.WalkKit
import Derived.Orders
import Derived.Deep.MidRow
import Derived.Deep.Draws
import Derived.Scope
import Derived.OrdersIn
import Derived.RangeFuncRecord
set_option linter.unusedSimpArgs false
set_option linter.unusedVariables false
namespace Go.Sx
open Go.RowKit
abbrev Place := Nat × Nat × Nat
inductive Rt where
  | no
  | full
  | own (s : Nat)
inductive C where
  | top
  | val (v : Value)
  | sl (r : Rt) (n : Nat) (xs : List C)
  | sv (b off n : Nat)
  | bp (b off : Nat)
  | kp (xs : List C)
  | agg (xs : List C)
  | tup (xs : List C)
  | fn (f : Nat) (caps : List C)
  | gv (b n : Nat) (s : Nat × Nat)
  | mp (b : Nat)
  | bt (b t n : Nat)
structure Gh where
  K : Nat → Nat → Option Value
  μ : Nat → Option Nat
  T : Nat → Option Place
  σ : Nat → Option (Nat × Nat) := fun _ => none
mutual
def Rep (G : Gh) : C → Value → Prop
  | .top,_ => True
  | .val u,v => v = u
  | .sl r n xs,v => ∃ a cap,v = .slice a n cap ∧ n ≤ cap ∧ cap ≤ maxLen ∧ (r = .full → cap = n) ∧
      (xs = [] ∨ ∃ blk off,a = some ⟨blk,off,none⟩ ∧ RepK G blk off xs)
  | .sv b off n,v => ∃ a cap,v = .slice a n cap ∧ n ≤ cap ∧ cap ≤ maxLen ∧ (n ≠ 0 → ∃ blk,G.μ b = some blk ∧ a = some ⟨blk,off,none⟩)
  | .bp b off,v => ∃ blk,G.μ b = some blk ∧ v = .pointer (some ⟨blk,off,none⟩)
  | .kp xs,v => ∃ blk off,v = .pointer (some ⟨blk,off,none⟩) ∧ RepK G blk off xs
  | .agg xs,v => ∃ vs,v = .agg vs ∧ RepL G xs vs.toList ∧ ∀ u ∈ vs.toList,u.oneCell' = true
  | .tup xs,v => ∃ vs,v = .tuple vs ∧ RepL G xs vs.toList
  | .fn f caps,v => ∃ vs,v = .func (.func f) #[] vs ∧ RepL G caps vs.toList
  | .gv b n s,v => ∃ a cap,v = .slice a n cap ∧ n ≤ cap ∧ cap ≤ maxLen ∧ ((n = 0 ∧ cap = 0) ∨ ∃ blk,G.μ b = some blk ∧ a = some ⟨blk,0,none⟩ ∧ G.σ b = some (cap * s.1,s.2))
  | .mp b,v => ∃ blk,G.μ b = some blk ∧ v = .map (some blk)
  | .bt b t n,v => ∃ blk,G.μ b = some blk ∧ v = .pointer (some ⟨blk,0,none⟩) ∧ G.σ b = some (n,t)
def RepL (G : Gh) : List C → List Value → Prop
  | [],vs => vs = []
  | x :: xs,vs => ∃ v vs',vs = v :: vs' ∧ Rep G x v ∧ RepL G xs vs'
def RepK (G : Gh) (blk off : Nat) : List C → Prop
  | [] => True
  | x :: xs => (∃ u,G.K blk off = some u ∧ u.oneCell' = true ∧ Rep G x u) ∧ RepK G blk (off + 1) xs
end
structure Gh.Le (G G' : Gh) : Prop where
  K : ∀ b o u,G.K b o = some u → G'.K b o = some u
  μ : ∀ b k,G.μ b = some k → G'.μ b = some k
  σ : ∀ b k,G.σ b = some k → G'.σ b = some k
theorem Gh.Le.refl (G : Gh) : G.Le G := ⟨fun _ _ _ h => h,fun _ _ h => h,fun _ _ h => h⟩
theorem Gh.Le.trans {A B D : Gh} (h : A.Le B) (k : B.Le D) : A.Le D := ⟨fun b o u x => k.K b o u (h.K b o u x),fun b o x => k.μ b o (h.μ b o x),fun b o x => k.σ b o (h.σ b o x)⟩
mutual
theorem Rep.mono {G G' : Gh} (h : G.Le G') : ∀ (c : C) (v : Value),Rep G c v → Rep G' c v
  | .top,_,_ => by simp [Rep]
  | .val u,v,r => by simpa [Rep] using r
  | .sl r n xs,v,x => by
    simp only [Rep] at x ⊢
    obtain ⟨a,cap,h1,h2,h3,h4,h5⟩ := x
    refine ⟨a,cap,h1,h2,h3,h4,?_⟩
    rcases h5 with h5 | ⟨blk,off,ha,hk⟩
    · exact .inl h5
    · exact .inr ⟨blk,off,ha,RepK.mono h xs blk off hk⟩
  | .sv b off n,v,x => by
    simp only [Rep] at x ⊢
    obtain ⟨a,cap,h1,h2,h3,h4⟩ := x
    exact ⟨a,cap,h1,h2,h3,fun hn => by obtain ⟨blk,q1,q2⟩ := h4 hn; exact ⟨blk,h.μ _ _ q1,q2⟩⟩
  | .gv b n s,v,x => by
    simp only [Rep] at x ⊢
    obtain ⟨a,cap,h1,h2,h3,h4⟩ := x
    refine ⟨a,cap,h1,h2,h3,?_⟩
    rcases h4 with h4 | ⟨blk,q1,q2,q3⟩
    · exact .inl h4
    · exact .inr ⟨blk,h.μ _ _ q1,q2,h.σ _ _ q3⟩
  | .bp b off,v,x => by
    simp only [Rep] at x ⊢
    obtain ⟨blk,h1,h2⟩ := x
    exact ⟨blk,h.μ _ _ h1,h2⟩
  | .mp b,v,x => by
    simp only [Rep] at x ⊢
    obtain ⟨blk,h1,h2⟩ := x
    exact ⟨blk,h.μ _ _ h1,h2⟩
  | .bt b t n,v,x => by
    simp only [Rep] at x ⊢
    obtain ⟨blk,h1,h2,h3⟩ := x
    exact ⟨blk,h.μ _ _ h1,h2,h.σ _ _ h3⟩
  | .kp xs,v,x => by
    simp only [Rep] at x ⊢
    obtain ⟨blk,off,h1,h2⟩ := x
    exact ⟨blk,off,h1,RepK.mono h xs blk off h2⟩
  | .agg xs,v,x => by
    simp only [Rep] at x ⊢
    obtain ⟨vs,h1,h2,h3⟩ := x
    exact ⟨vs,h1,RepL.mono h xs _ h2,h3⟩
  | .tup xs,v,x => by
    simp only [Rep] at x ⊢
    obtain ⟨vs,h1,h2⟩ := x
    exact ⟨vs,h1,RepL.mono h xs _ h2⟩
  | .fn f xs,v,x => by
    simp only [Rep] at x ⊢
    obtain ⟨vs,h1,h2⟩ := x
    exact ⟨vs,h1,RepL.mono h xs _ h2⟩
theorem RepL.mono {G G' : Gh} (h : G.Le G') : ∀ (xs : List C) (vs : List Value),RepL G xs vs → RepL G' xs vs
  | [],vs,r => by simpa [RepL] using r
  | x :: xs,vs,r => by
    simp only [RepL] at r ⊢
    obtain ⟨v,vs',h1,h2,h3⟩ := r
    exact ⟨v,vs',h1,Rep.mono h x v h2,RepL.mono h xs vs' h3⟩
theorem RepK.mono {G G' : Gh} (h : G.Le G') : ∀ (xs : List C) (blk off : Nat),RepK G blk off xs → RepK G' blk off xs
  | [],_,_,_ => by simp [RepK]
  | x :: xs,blk,off,r => by
    simp only [RepK] at r ⊢
    obtain ⟨⟨u,h1,h2,h3⟩,h4⟩ := r
    exact ⟨⟨u,h.K _ _ _ h1,h2,Rep.mono h x u h3⟩,RepK.mono h xs blk (off + 1) h4⟩
end
def C.noR : C → C
  | .sl (.own _) n xs => .sl .no n xs
  | c => c
theorem Rep.noR {G : Gh} {c : C} {v : Value} (h : Rep G c v) : Rep G c.noR v := by
  unfold C.noR
  split
  · simp only [Rep] at h ⊢
    obtain ⟨a,cap,h1,h2,h3,_,h5⟩ := h
    exact ⟨a,cap,h1,h2,h3,by simp,h5⟩
  · exact h
theorem RepL.length {G : Gh} : ∀ {xs : List C} {vs : List Value},RepL G xs vs → xs.length = vs.length
  | [],vs,h => by simp only [RepL] at h; subst h; rfl
  | x :: xs,vs,h => by
    simp only [RepL] at h
    obtain ⟨v,vs',rfl,_,h3⟩ := h
    simp [RepL.length h3]
theorem RepL.get {G : Gh} : ∀ {xs : List C} {vs : List Value},RepL G xs vs → ∀ (i : Nat) (x : C),xs[i]? = some x → ∃ v,vs[i]? = some v ∧ Rep G x v
  | [],vs,_,i,x,hx => by simp at hx
  | y :: xs,vs,h,i,x,hx => by
    simp only [RepL] at h
    obtain ⟨v,vs',rfl,h2,h3⟩ := h
    cases i with
    | zero => simp at hx; subst hx; exact ⟨v,by simp,h2⟩
    | succ i => simpa using RepL.get h3 i x (by simpa using hx)
theorem RepL.of_get {G : Gh} : ∀ {xs : List C} {vs : List Value},xs.length = vs.length →
    (∀ (i : Nat) (x : C) (v : Value),xs[i]? = some x → vs[i]? = some v → Rep G x v) → RepL G xs vs
  | [],vs,h,_ => by cases vs with | nil => simp [RepL] | cons a b => simp at h
  | y :: xs,vs,h,H => by
    cases vs with
    | nil => simp at h
    | cons v vs =>
      simp only [RepL]
      exact ⟨v,vs,rfl,H 0 y v (by simp) (by simp),RepL.of_get (by simpa using h) fun i x v hx hv => H (i + 1) x v (by simpa using hx) (by simpa using hv)⟩
theorem RepK.get {G : Gh} {blk : Nat} : ∀ {xs : List C} {off : Nat},RepK G blk off xs → ∀ (i : Nat) (x : C),xs[i]? = some x →
    ∃ u,G.K blk (off + i) = some u ∧ u.oneCell' = true ∧ Rep G x u
  | [],off,_,i,x,hx => by simp at hx
  | y :: xs,off,h,i,x,hx => by
    simp only [RepK] at h
    cases i with
    | zero => simp at hx; subst hx; simpa using h.1
    | succ i =>
      have := RepK.get h.2 i x (by simpa using hx)
      simpa [Nat.add_assoc,Nat.add_comm 1 i] using this
theorem RepK.of_get {G : Gh} {blk : Nat} : ∀ {xs : List C} {off : Nat},(∀ (i : Nat) (x : C),xs[i]? = some x →
    ∃ u,G.K blk (off + i) = some u ∧ u.oneCell' = true ∧ Rep G x u) → RepK G blk off xs
  | [],off,_ => by simp [RepK]
  | y :: xs,off,h => by
    simp only [RepK]
    exact ⟨by simpa using h 0 y (by simp),RepK.of_get fun i x hx => by simpa [Nat.add_assoc,Nat.add_comm 1 i] using h (i + 1) x (by simpa using hx)⟩
theorem RepK.drop {G : Gh} {blk off : Nat} {xs : List C} (h : RepK G blk off xs) (k : Nat) : RepK G blk (off + k) (xs.drop k) :=
  RepK.of_get fun i x hx => by
    rw [List.getElem?_drop] at hx
    simpa [Nat.add_assoc] using h.get (k + i) x hx
theorem RepK.take {G : Gh} {blk off : Nat} {xs : List C} (h : RepK G blk off xs) (k : Nat) : RepK G blk off (xs.take k) :=
  RepK.of_get fun i x hx => by
    rw [List.getElem?_take] at hx
    split at hx
    · exact h.get i x hx
    · cases hx
theorem RepK.append {G : Gh} {blk off : Nat} {xs ys : List C} (h : RepK G blk off xs) (k : RepK G blk (off + xs.length) ys) : RepK G blk off (xs ++ ys) :=
  RepK.of_get fun i x hx => by
    rw [List.getElem?_append] at hx
    split at hx
    · exact h.get i x hx
    · have := k.get _ x hx
      rwa [show off + xs.length + (i - xs.length) = off + i from by omega] at this
theorem RepK.values {G : Gh} {blk : Nat} : ∀ {xs : List C} {off : Nat},RepK G blk off xs →
    ∃ vs : List Value,vs.length = xs.length ∧ RepL G xs vs ∧ (∀ (j : Nat) (u : Value),vs[j]? = some u → G.K blk (off + j) = some u) ∧ ∀ u ∈ vs,u.oneCell' = true
  | [],off,_ => ⟨[],rfl,by simp [RepL],by simp,by simp⟩
  | x :: xs,off,h => by
    simp only [RepK] at h
    obtain ⟨⟨u,h1,h2,h3⟩,h4⟩ := h
    obtain ⟨vs,a1,a2,a3,a4⟩ := RepK.values h4
    refine ⟨u :: vs,by simp [a1],by simp only [RepL]; exact ⟨u,vs,rfl,h3,a2⟩,?_,?_⟩
    · intro j w hj
      cases j with
      | zero => simp at hj; subst hj; simpa using h1
      | succ j => simpa [Nat.add_assoc,Nat.add_comm 1 j] using a3 j w (by simpa using hj)
    · intro w hw
      rcases List.mem_cons.1 hw with rfl | hw
      · exact h2
      · exact a4 w hw
def OwnRow (G : Gh) (w : World) (p : Place) (v : Value) (s n : Nat) : Prop :=
  (∃ a,v = .slice a n n) ∨
  ∃ g cap cur e,v = .slice (some ⟨g,0,none⟩) n cap ∧ G.T g = some p ∧ w.heap[g]? = some (.cells cur e (0,0)) ∧ cur.size = cap * s ∧
    (∀ o,n * s ≤ o → G.K g o = none) ∧ (∀ b,G.μ b ≠ some g)
abbrev Hp := List (Option (List C))
def liveC : Option (List C) → Option (List C)
  | some (.tup _ :: _) => none
  | o => o
theorem liveC_some {o : Option (List C)} {cells : List C} (h : liveC o = some cells) : o = some cells := by
  unfold liveC at h
  split at h
  · cases h
  · exact h
def deadC : List C := [.tup []]
def Hp.at (h : Hp) (b : Nat) : Option (List C) := (h[b]?).bind liveC
def mpL : Option (List C) → Option (List C)
  | some (.tup (.val (.bool true) :: l) :: _) => some l
  | _ => none
def mapC (l : List C) : List C := [.tup (.val (.bool true) :: l)]
def Hp.mp (h : Hp) (b : Nat) : Option (List C) := (h[b]?).bind mpL
def MRep (G : Gh) : List C → List MapEntry → Prop
  | [],es => es = []
  | [_],_ => False
  | k :: v :: l,es => ∃ e es',es = e :: es' ∧ Rep G k e.key ∧ Rep G v e.val ∧ MRep G l es'
theorem MRep.mono {G G' : Gh} (h : G.Le G') : ∀ (l : List C) (es : List MapEntry),MRep G l es → MRep G' l es
  | [],_,r => by simpa [MRep] using r
  | [_],_,r => by simp [MRep] at r
  | k :: v :: l,es,r => by
    simp only [MRep] at r ⊢
    obtain ⟨e,es',h1,h2,h3,h4⟩ := r
    exact ⟨e,es',h1,h2.mono h,h3.mono h,MRep.mono h l es' h4⟩
theorem mpL_at {o : Option (List C)} {l : List C} (h : mpL o = some l) : liveC o = none := by
  unfold mpL at h
  split at h
  · rfl
  · cases h
theorem Hp.mp_lt {h : Hp} {b : Nat} {l : List C} (hb : h.mp b = some l) : b < h.length := by
  unfold Hp.mp at hb
  cases hq : h[b]? with
  | none => rw [hq] at hb; cases hb
  | some o => exact (List.getElem?_eq_some_iff.1 hq).1
theorem Hp.mp_set {h : Hp} {b b' : Nat} {o : Option (List C)} (hb : b < h.length) : Hp.mp (h.set b o) b' = if b' = b then mpL o else h.mp b' := by
  unfold Hp.mp
  rw [List.getElem?_set]
  by_cases e : b = b'
  · subst e; rw [if_pos rfl,if_pos hb,if_pos rfl]; rfl
  · rw [if_neg e,if_neg (fun x => e x.symm)]
theorem Hp.mp_append {h : Hp} {o : Option (List C)} {b : Nat} : Hp.mp (h ++ [o]) b = if b = h.length then mpL o else h.mp b := by
  unfold Hp.mp
  by_cases hb : b = h.length
  · subst hb; simp
  · rw [if_neg hb]
    rcases Nat.lt_or_ge b h.length with hl | hl
    · rw [List.getElem?_append_left hl]
    · rw [List.getElem?_append_right hl,List.getElem?_eq_none (by simp; omega),List.getElem?_eq_none hl]
theorem mpL_live {o : Option (List C)} {cells : List C} (h : liveC o = some cells) : mpL o = none := by
  cases hm : mpL o with
  | none => rfl
  | some l => rw [mpL_at hm] at h; cases h
theorem mpL_one {G : Gh} {cells : List C} {vs : List Value} (hr : RepL G cells vs) (h1 : ∀ v ∈ vs,v.oneCell' = true) : mpL (some cells) = none := by
  cases cells with
  | nil => rfl
  | cons c cs =>
    cases c with
    | tup xs =>
      exfalso
      simp only [RepL] at hr
      obtain ⟨v,vs',rfl,hv,_⟩ := hr
      simp only [Rep] at hv
      obtain ⟨us,rfl,_⟩ := hv
      have := h1 _ (List.mem_cons_self ..)
      cases this
    | _ => rfl
def RowIs (o : Option Obj) (cs : Array Value) (e : TypeId) : Prop := ∃ fr : Nat × Nat,o = some (.cells cs e fr) ∧ (fr.2 = 0 ∨ cs.size ≤ fr.1)
theorem RowIs.of {cs : Array Value} {e : TypeId} : RowIs (some (.cells cs e (0,0))) cs e := ⟨(0,0),rfl,.inl rfl⟩
structure WorldOK (G : Gh) (h : Hp) (w : World) : Prop where
  known : ∀ blk off u,G.K blk off = some u → w.cell? ⟨blk,off,none⟩ = some u
  box : ∀ b cells,h.at b = some cells → (cells = [] ∧ G.μ b = none) ∨ ∃ blk cs e,G.μ b = some blk ∧ RowIs w.heap[blk]? cs e ∧ cells.length ≤ cs.size ∧ RepL G cells (cs.toList.take cells.length) ∧ ∀ v ∈ cs.toList,v.oneCell' = true
  dom : ∀ b blk,G.μ b = some blk → (∃ cells,h[b]? = some (some cells)) ∧ blk < w.heap.size
  inj : ∀ b b' cells cells' blk,h.at b = some cells → h.at b' = some cells' → G.μ b = some blk → G.μ b' = some blk → b = b'
  sep : ∀ b blk,G.μ b = some blk → (∀ o,G.K blk o = none) ∧ G.T blk = none
  tlt : ∀ g p,G.T g = some p → g < w.heap.size
  own : ∀ b cells off s n xs blk v,h.at b = some cells → cells[off]? = some (.sl (.own s) n xs) → G.μ b = some blk → w.cell? ⟨blk,off,none⟩ = some v → OwnRow G w (1,b,off) v s n
  siz : ∀ b z,G.σ b = some z → ∃ blk cs e fr,G.μ b = some blk ∧ w.heap[blk]? = some (.cells cs e fr) ∧ cs.size = z.1 ∧ e = z.2
  mpo : ∀ b l,h.mp b = some l → ∃ blk es clk,G.μ b = some blk ∧ w.heap[blk]? = some (.map es clk) ∧ MRep G l es.toList
  mpi : ∀ b b' l l' blk,h.mp b = some l → h.mp b' = some l' → G.μ b = some blk → G.μ b' = some blk → b = b'
structure Frm (G₀ : Gh) (w₀ : World) (G : Gh) (w : World) : Prop where
  os : w.os = w₀.os
  tape : w.tape = w₀.tape
  output : w.output = w₀.output
  size : w₀.heap.size ≤ w.heap.size
  le : G₀.Le G
  old : ∀ g,g < w₀.heap.size → G₀.T g = none → (∀ b,G₀.μ b ≠ some g) →
    w.heap[g]? = w₀.heap[g]? ∧ G.T g = none ∧ (∀ b,G.μ b ≠ some g) ∧ ∀ o,G.K g o = G₀.K g o
theorem Frm.refl (G : Gh) (w : World) : Frm G w G w := ⟨rfl,rfl,rfl,Nat.le_refl _,.refl G,fun _ _ h1 h2 => ⟨rfl,h1,h2,fun _ => rfl⟩⟩
theorem Frm.trans {A B D : Gh} {a b d : World} (h : Frm A a B b) (k : Frm B b D d) : Frm A a D d :=
  ⟨k.os.trans h.os,k.tape.trans h.tape,k.output.trans h.output,Nat.le_trans h.size k.size,h.le.trans k.le,fun g hg ht hm => by
    obtain ⟨a1,a2,a3,a4⟩ := h.old g hg ht hm
    obtain ⟨b1,b2,b3,b4⟩ := k.old g (Nat.lt_of_lt_of_le hg h.size) a2 a3
    exact ⟨b1.trans a1,b2,b3,fun o => (b4 o).trans (a4 o)⟩⟩
end Go.Sx
namespace Go.Sx
open Go.RowKit
structure TD where
  u : TypeDesc
  size : Nat
  bytes : Nat
  zero : List Value
def td (P : Program) (t : TypeId) : Option TD :=
  match P.underlying t,P.info? t with
  | some u,some i => match i.zero with
    | some z => some ⟨u,i.size,i.bytes,z.cells.toList⟩
    | none => none
  | _,_ => none
def TD.isAgg (d : TD) : Bool := match d.u with | .struct _ | .array _ _ => true | _ => false
structure Cx where
  P : Program
  N : Nat
  gl : Nat → C
  pu : Nat → List C → Option C
  hp : Nat → List C → Hp → Option (C × Hp)
  gr : Nat → Bool := fun _ => false
  km : TypeId → Value → Bool := fun _ _ => false
  top : Bool := true
structure St where
  env : Nat → C
  h : Hp
def C.val? : C → Option Value
  | .val v => some v
  | _ => none
def C.int? : C → Option (IntKind × Int)
  | .val (.int k n) => some (k,n)
  | _ => none
def C.sl? : C → Option (Nat × List C)
  | .sl _ n xs => some (n,xs)
  | .val (.slice none 0 0) => some (0,[])
  | _ => none
def C.share : C → C
  | .val (.slice none 0 0) => .sl .no 0 []
  | .sl .full n xs => .sl .no n xs
  | c => c.noR
def C.cells? : C → Option (List C)
  | .agg xs => some (xs.map C.noR)
  | .val (.agg vs) => if vs.toList.all (·.oneCell') then some (vs.toList.map .val) else none
  | .val v => if v.oneCell' then some [.val v] else none
  | .sl r n xs => some [(C.sl r n xs).noR]
  | .sv b o n => some [.sv b o n]
  | .bp b o => some [.bp b o]
  | .kp xs => some [.kp xs]
  | .fn f cs => some [.fn f cs]
  | .gv b n s => some [.gv b n s]
  | .mp b => some [.mp b]
  | .bt b t n => some [.bt b t n]
  | .top | .tup _ => none
def C.asSv : C → C
  | .gv b n _ => .sv b 0 n
  | c => c
def splice (xs : List C) (o : Nat) (ys : List C) : List C := xs.take o ++ ys ++ xs.drop (o + ys.length)
def sbin (op : BinOp) : Value → Value → Option Value
  | .int k a,.int k' b =>
    match op with
    | .shl => if b < 0 then none else some (.int k (k.wrap (a * 2 ^ (min b.toNat k.bits))))
    | .shr => if b < 0 then none else some (.int k (a.fdiv (2 ^ (min b.toNat k.bits))))
    | _ => if k ≠ k' then none else
      match op with
      | .add => some (.int k (k.wrap (a + b)))
      | .sub => some (.int k (k.wrap (a - b)))
      | .mul => some (.int k (k.wrap (a * b)))
      | .quo => if b = 0 then none else some (.int k (k.wrap (a.tdiv b)))
      | .rem => if b = 0 then none else some (.int k (a.tmod b))
      | .and => some (.int k (k.wrap (BitVec.ofInt k.bits a &&& BitVec.ofInt k.bits b).toNat))
      | .or => some (.int k (k.wrap (BitVec.ofInt k.bits a ||| BitVec.ofInt k.bits b).toNat))
      | .xor => some (.int k (k.wrap (BitVec.ofInt k.bits a ^^^ BitVec.ofInt k.bits b).toNat))
      | .andNot => some (.int k (k.wrap (BitVec.ofInt k.bits a &&& ~~~BitVec.ofInt k.bits b).toNat))
      | .eql => some (.bool (a == b))
      | .neq => some (.bool (a != b))
      | .lss => some (.bool (decide (a < b)))
      | .leq => some (.bool (decide (a ≤ b)))
      | .gtr => some (.bool (decide (a > b)))
      | .geq => some (.bool (decide (a ≥ b)))
      | _ => none
  | .string a,.string b =>
    match op with
    | .add => if a.size + b.size ≤ 9223372036854775807 then some (.string (a ++ b)) else none
    | .eql => some (.bool (a.toList == b.toList))
    | .neq => some (.bool (!(a.toList == b.toList)))
    | .lss => some (.bool (Op.bytesLess a.toList b.toList))
    | .leq => some (.bool (Op.bytesLess a.toList b.toList || a.toList == b.toList))
    | .gtr => some (.bool (!(Op.bytesLess a.toList b.toList || a.toList == b.toList)))
    | .geq => some (.bool (!Op.bytesLess a.toList b.toList))
    | _ => none
  | .bool a,.bool b =>
    match op with
    | .eql => some (.bool (a == b))
    | .neq => some (.bool (!(a == b)))
    | _ => none
  | _,_ => none
def u8s? : List C → Option (List Int)
  | [] => some []
  | .val (.int .u8 n) :: r => (u8s? r).map (n :: ·)
  | _ :: _ => none
def byteC (b : UInt8) : C := .val (.int .u8 b.toNat)
def strOf (ns : List Int) : ByteArray := ⟨(ns.map fun n => UInt8.ofNat n.toNat).toArray⟩
inductive Plan where
  | val (c : C) (kill : Option Nat)
  | rd (b : Nat) (f : List C → Option C)
  | wr (b : Nat) (f : List C → Option (List C × C)) (kill : Option Nat)
  | xr (b off : Nat)
  | new (cells : List C) (g : Nat → C)
  | call (f : Nat) (args : List C)
  | ap (b : Option (Nat × Nat)) (s : Nat × Nat) (m : Nat) (ys : Hp → Option (List C))
  | mo (f : Hp → Option (C × Hp))
def Plan.pure (c : C) : Plan := .val c none
def Cx.ev (cx : Cx) (env : Nat → C) : Operand → C
  | .tmp t => env t
  | .const v => .val v
  | .global g => (cx.gl g).noR
  | .func f => .fn f []
def Cx.evn (cx : Cx) (env : Nat → C) (x : Operand) : C := (cx.ev env x).noR
def tmp? : Operand → Option Nat
  | .tmp t => some t
  | _ => none
mutual
def valQ : C → Option Value
  | .val v => some v
  | .agg xs => (valQs xs).map fun l => .agg l.toArray
  | _ => none
def valQs : List C → Option (List Value)
  | [] => some []
  | x :: xs => match valQ x,valQs xs with
    | some v,some l => some (v :: l)
    | _,_ => none
end
def vq1 : Value → Value → Option Bool
  | .int k a,.int k' b => if k = k' then some (a == b) else none
  | .string a,.string b => some (a.data.toList == b.data.toList)
  | .bool a,.bool b => some (a == b)
  | _,_ => none
def vqs : List Value → List Value → Option Bool
  | [],[] => some true
  | a :: az,b :: bs => match vq1 a b with
    | some true => vqs az bs
    | some false => some false
    | none => none
  | _,_ => none
def vq : Value → Value → Option Bool
  | .agg a,.agg b => vqs a.toList b.toList
  | a,b => vq1 a b
def mfind (cx : Cx) (kt : TypeId) (k : Value) : List C → Nat → Option (Option (Nat × C))
  | [],_ => some none
  | .val u :: v :: l,i => if cx.km kt u = true then (match vq k u with
      | some true => (match mfind cx kt k l (i + 1) with
        | some none => some (some (i,v))
        | _ => none)
      | some false => mfind cx kt k l (i + 1)
      | none => none) else none
  | _,_ => none
def mapKT (P : Program) (t : TypeId) : Option (TypeId × TypeId) := match td P t with
  | some d => match d.u with
    | .map k e => some (k,e)
    | _ => none
  | none => none
def zvC (P : Program) (e : TypeId) : Option C := match P.info? e with
  | some i => match i.zero with
    | some (.agg vs) => if vs.toList.all (·.oneCell') = true then some (.agg (vs.toList.map .val)) else none
    | some z => if z.oneCell' = true then some (.val z) else none
    | none => none
  | none => none
def mlookR (P : Program) (et : TypeId) (ok : Bool) (h : Hp) (r : Option (Nat × C)) : Option (C × Hp) :=
  let q : Option (C × Bool) := match r with
    | some (_,v) => some (v.noR,true)
    | none => (zvC P et).map (·,false)
  q.map fun r => (if ok = true then .tup [r.1,.val (.bool r.2)] else r.1,h)
def mlookF (cx : Cx) (t : TypeId) (b : Nat) (k : Value) (ok : Bool) (h : Hp) : Option (C × Hp) := match mapKT cx.P t with
  | some (kt,et) => if cx.km kt k = true then (h.mp b).bind fun ents => (mfind cx kt k ents 0).bind (mlookR cx.P et ok h) else none
  | none => none
def mputR (b : Nat) (k : Value) (x : C) (h : Hp) (ents : List C) (r : Option (Nat × C)) : C × Hp :=
  (.val undef,h.set b (some (mapC (match r with
    | some (i,_) => ents.set (2 * i + 1) x
    | none => ents ++ [.val k,x]))))
def mputF (cx : Cx) (t : TypeId) (b : Nat) (k : Value) (x : C) (h : Hp) : Option (C × Hp) := match mapKT cx.P t with
  | some (kt,_) => if cx.km kt k = true then (h.mp b).bind fun ents => (mfind cx kt k ents 0).map (mputR b k x h ents) else none
  | none => none
def mdelR (b : Nat) (h : Hp) (ents : List C) (r : Option (Nat × C)) : C × Hp :=
  (.val (.tuple #[]),h.set b (some (mapC (match r with
    | some (i,_) => ents.take (2 * i) ++ ents.drop (2 * i + 2)
    | none => ents))))
def mdelF (cx : Cx) (t : TypeId) (b : Nat) (k : Value) (h : Hp) : Option (C × Hp) := match mapKT cx.P t with
  | some (kt,_) => if cx.km kt k = true then (h.mp b).bind fun ents => (mfind cx kt k ents 0).map (mdelR b h ents) else none
  | none => none
def mnewF (h : Hp) : Option (C × Hp) := some (.mp h.length,h ++ [some (mapC [])])
def mnewPlan (P : Program) (t : TypeId) : Option Plan := (mapKT P t).map fun _ => .mo mnewF
def mlookPlan (cx : Cx) (t : TypeId) (m k : C) (ok : Bool) : Option Plan := match m,valQ k with
  | .mp b,some kv => some (.mo (mlookF cx t b kv ok))
  | _,_ => none
def mputPlan (cx : Cx) (t : TypeId) (m k x : C) : Option Plan := match m,valQ k with
  | .mp b,some kv => some (.mo (mputF cx t b kv x))
  | _,_ => none
def mdelPlan (cx : Cx) (t : TypeId) (m k : C) : Option Plan := match m,valQ k with
  | .mp b,some kv => some (.mo (mdelF cx t b kv))
  | _,_ => none
def appOf (o : Oper) : Option Nat := match o.op with
  | .call { callee := .builtin .append,args,.. } => (match (args[0]? : Option Operand) with | some (Operand.tmp u) => some u | _ => none)
  | .assign (.tmp u) => some (u + 1000000)
  | _ => none
def isApp (ops : Array Oper) (d : Option Nat) : Bool :=
  match d with
  | none => false
  | some t => (ops.toList.filterMap appOf).contains t
def isMv (ops : Array Oper) (d : Option Nat) : Bool := isApp ops d || isApp ops (d.map (· + 1000000))
def getAt (d : TD) (cells : List C) (off : Nat) : Option C :=
  if d.isAgg then (if off + d.size ≤ cells.length then some (.agg (((cells.drop off).take d.size).map C.noR)) else none)
  else (cells[off]?).map C.noR
def idx? (c : C) (n : Nat) : Option Nat :=
  match c.int? with
  | some (_,i) => if 0 ≤ i ∧ i < n then some i.toNat else none
  | none => none
def bound? (c : Option C) (dflt most : Nat) : Option Nat :=
  match c with
  | none => some dflt
  | some c => match c.int? with
    | some (_,i) => if 0 ≤ i ∧ i ≤ most then some i.toNat else none
    | none => none
def places (P : Program) (u : TypeDesc) : Option (Nat → Option (Nat × Nat)) :=
  match u with
  | .struct fields => (fields.toList.mapM fun f => (td P f.type).map fun d => (f.offset,d.size)).map fun pl i => pl[i]?
  | .array _ e => (td P e).map fun d i => some (i * d.size,d.size)
  | _ => none
def lay (pl : Nat → Option (Nat × Nat)) (cells : List C) : List (Nat × C) → Option (List C)
  | [] => some cells
  | (i,c) :: rest => match pl i,c.cells? with
    | some (off,size),some cs => if cs.length = size ∧ off + size ≤ cells.length then lay pl (splice cells off cs) rest else none
    | _,_ => none
def repZero (z : List Value) : Nat → List C
  | 0 => []
  | n + 1 => z.map .val ++ repZero z n
def src? (c : C) : Option (Nat × List C) :=
  match c with
  | .val (.string s) => some (s.size,s.data.toList.map byteC)
  | c => c.sl?
def convPlan (P : Program) (src dst : TypeId) (c : C) : Option Plan :=
  match td P src,td P dst with
  | some ds,some dd =>
    match ds.u,dd.u,c with
    | _,.int k,.val (.int _ n) => some (.pure (.val (.int k (k.wrap n))))
    | _,.string,.val (.string s) => some (.pure (.val (.string s)))
    | .string,.slice e,.val (.string s) => match td P e with
      | some de => (match de.u with
        | .int .u8 => if s.size ≤ 140737488355328 then some (.pure (.sl .no s.size (s.data.toList.map byteC))) else none
        | _ => none)
      | none => none
    | .slice e,.string,c => match td P e with
      | some de => (match de.u with
        | .int .u8 => (match c with
          | .sv b off n => some (.rd b fun cells => if off + n ≤ cells.length then (u8s? ((cells.drop off).take n)).map fun ns => .val (.string (strOf ns)) else none)
          | c => match c.sl? with
            | some (n,xs) => if xs.length = n then (u8s? xs).map fun ns => .pure (.val (.string (strOf ns))) else none
            | none => none)
        | _ => none)
      | none => none
    | _,_,_ => none
  | _,_ => none
def slicePlan (P : Program) (t : TypeId) (c : C) (lo hi mx : Option C) : Option Plan :=
  match td P t with
  | none => none
  | some d =>
    match d.u,c with
    | .string,.val (.string s) =>
      if mx.isSome then none else
      match bound? hi s.size s.size with
      | some h => (match bound? lo 0 h with
        | some l => some (.pure (.val (.string (s.extract l h))))
        | none => none)
      | none => none
    | .slice e,.sv b off n => match td P e with
      | some de =>
        if mx.isSome then none else
        (match bound? hi n n with
        | some h => (match bound? lo 0 h with
          | some l => some (.pure (.sv b (off + l * de.size) (h - l)))
          | none => none)
        | none => none)
      | none => none
    | .slice e,c => match td P e,c.sl? with
      | some de,some (n,xs) =>
        if xs.length = n * de.size ∧ (mx.isNone ∨ hi.isSome) then
          (match bound? mx n n with
          | some m => (match bound? hi n (if mx.isSome then m else n) with
            | some h => (match bound? lo 0 h with
              | some l => some (.pure (.sl (if mx.isSome ∧ m = h then .full else .no) (h - l) ((xs.drop (l * de.size)).take ((h - l) * de.size))))
              | none => none)
            | none => none)
          | none => none)
        else none
      | _,_ => none
    | .array n e,.bp b off => match td P e with
      | some de =>
        if mx.isSome ∨ 65536 < n then none else
        (match bound? hi n n with
        | some h => (match bound? lo 0 h with
          | some l => some (.pure (.sv b (off + l * de.size) (h - l)))
          | none => none)
        | none => none)
      | none => none
    | .array n e,.kp xs => match td P e with
      | some de =>
        if mx.isSome ∨ 65536 < n ∨ xs.length < n * de.size then none else
        (match bound? hi n n with
        | some h => (match bound? lo 0 h with
          | some l => some (.pure (.sl .no (h - l) ((xs.drop (l * de.size)).take ((h - l) * de.size))))
          | none => none)
        | none => none)
      | none => none
    | _,_ => none
def indexAddrPlan (P : Program) (t : TypeId) (c i : C) : Option Plan :=
  match td P t with
  | none => none
  | some d =>
    match d.u,c with
    | .array n e,.bp b off => match td P e,idx? i n with
      | some de,some k => some (.pure (.bp b (off + k * de.size)))
      | _,_ => none
    | .array n e,.kp xs => match td P e,idx? i n with
      | some de,some k => if n * de.size ≤ xs.length then some (.pure (.kp (xs.drop (k * de.size)))) else none
      | _,_ => none
    | .slice e,.sv b off n => match td P e,idx? i n with
      | some de,some k => some (.pure (.bp b (off + k * de.size)))
      | _,_ => none
    | .slice e,.sl _ n xs => match td P e,idx? i n with
      | some de,some k => if xs.length = n * de.size ∧ xs ≠ [] then some (.pure (.kp (xs.drop (k * de.size)))) else none
      | _,_ => none
    | _,_ => none
def C.agg? : C → Option (List C)
  | .agg xs => some xs
  | .val (.agg vs) => if vs.toList.all (·.oneCell') then some (vs.toList.map .val) else none
  | _ => none
def indexPlan (P : Program) (t : TypeId) (c i : C) : Option Plan :=
  match td P t with
  | none => none
  | some d =>
    match d.u,c with
    | .string,.val (.string s) => match idx? i s.size with
      | some k => (s.data[k]?).map fun b => .pure (byteC b)
      | none => none
    | .array n e,c => match td P e,idx? i n,c.agg? with
      | some de,some k,some xs => (getAt de xs (k * de.size)).map .pure
      | _,_,_ => none
    | _,_ => none
def fieldPlan (P : Program) (t : TypeId) (c : C) (f : Nat) : Option Plan :=
  match td P t with
  | none => none
  | some d =>
    match d.u with
    | .struct fields => match fields[f]?,c.agg? with
      | some fd,some xs => (match td P fd.type with
        | some de => (getAt de xs fd.offset).map .pure
        | none => none)
      | _,_ => none
    | _ => none
def fieldAddrPlan (P : Program) (t : TypeId) (c : C) (f : Nat) : Option Plan :=
  match td P t with
  | none => none
  | some d =>
    match d.u with
    | .struct fields => match fields[f]? with
      | some fd => (match td P fd.type with
        | some de => if de.size = 0 then none else
          (match c with
          | .bp b off => some (.pure (.bp b (off + fd.offset)))
          | .bt b _ _ => some (.pure (.bp b fd.offset))
          | .kp xs => if fd.offset ≤ xs.length then some (.pure (.kp (xs.drop fd.offset))) else none
          | _ => none)
        | none => none)
      | none => none
    | _ => none
def loadPlan (P : Program) (own : Bool) (t : TypeId) (c : C) : Option Plan :=
  match td P t with
  | none => none
  | some d =>
    match c with
    | .bp b off =>
      if own ∧ d.isAgg = false then some (.xr b off)
      else some (.rd b fun cells => getAt d cells off)
    | .kp xs => (getAt d xs off0).map .pure
    | _ => none
where off0 := 0
def storePlan (P : Program) (t : TypeId) (c : C) (x : C) (xt : Option Nat) : Option Plan :=
  match td P t with
  | none => none
  | some d =>
    match c with
    | .bp b off => match x with
      | .sl r n xs => if d.size = 1 then some (.wr b (fun cells => if off < cells.length then some (cells.set off (.sl r n xs),.val undef) else none) xt) else none
      | x => match x.cells? with
        | some cs => if cs.length = d.size then some (.wr b (fun cells => if off + cs.length ≤ cells.length then some (splice cells off cs,.val undef) else none) none) else none
        | none => none
    | _ => none
def notInt : TypeDesc → Bool
  | .slice _ | .string => true
  | _ => false
theorem notInt_spec {u : TypeDesc} (h : notInt u = true) : (∃ e,u = .slice e) ∨ u = .string := by
  cases u <;> simp [notInt] at h ⊢
def appendPlan (P : Program) (t t2 : TypeId) (x y : C) (xt : Option Nat) : Option Plan :=
  match td P t,td P t2 with
  | none,_ => none
  | _,none => none
  | some d,some d2 =>
    if notInt d2.u = false then none else
    match d.u with
    | .slice e => match td P e with
      | none => none
      | some de =>
        let fin (n : Nat) (xs : List C) (m : Nat) (ys : List C) : Option C :=
          if xs.length = n * de.size ∧ ys.length = m * de.size ∧ 0 < de.size ∧ de.zero.length = de.size ∧ (n + m) * de.bytes ≤ 140737488355328 ∧ n + m ≤ 9223372036854775807 then some (.sl (.own de.size) (n + m) (xs ++ ys)) else none
        let start : Option (Nat × List C × Option Nat) := match x with
          | .val (.slice none 0 0) => some (0,[],none)
          | .sl .full n xs => some (n,xs,none)
          | .sl (.own s) n xs => if s = de.size then some (n,xs,xt) else none
          | _ => none
        match start with
        | none => none
        | some (n,xs,k) =>
          match y with
          | .sv b off m => if k.isSome then some (.wr b (fun cells => (if off + m * de.size ≤ cells.length then fin n xs m (((cells.drop off).take (m * de.size)).map C.noR) else none).map fun c => (cells,c)) k)
            else some (.rd b fun cells => if off + m * de.size ≤ cells.length then fin n xs m (((cells.drop off).take (m * de.size)).map C.noR) else none)
          | y => match src? y with
            | some (m,ys) => (fin n xs m ys).map fun c => .val c k
            | none => none
    | _ => none
def growInt (P : Program) (d d2 : TD) (x y : C) : Option Plan :=
  match d2.u,d.u,y with
  | .int .i64,.slice e,.val (.int .i64 m) => match td P e with
    | some de => match x with
      | .gv b n s => if s = (de.size,e) ∧ 0 ≤ m ∧ m ≤ 65536 ∧ (n + m.toNat) * de.bytes ≤ 140737488355328 ∧ n + m.toNat ≤ 9223372036854775807 ∧ 0 < de.size ∧ de.zero.length = de.size ∧ de.zero.all (·.oneCell') = true then
          some (.ap (some (b,n)) (de.size,e) m.toNat fun _ => some (repZero de.zero m.toNat)) else none
      | _ => none
    | none => none
  | _,_,_ => none
def growPlan (P : Program) (t t2 : TypeId) (x y : C) : Option Plan :=
  match td P t,td P t2 with
  | some d,some d2 =>
    if notInt d2.u = false then growInt P d d2 x y else
    match d.u with
    | .slice e => match td P e with
      | none => none
      | some de =>
        let start : Option (Nat × Option (Nat × Nat)) := match x with
          | .val (.slice none 0 0) => some (0,none)
          | .sl .full 0 _ => some (0,none)
          | .gv b n s => if s = (de.size,e) then some (n,some (b,n)) else none
          | _ => none
        match start with
        | none => none
        | some (n,b) =>
          let fin (m : Nat) (ys : List C) : Bool := decide (ys.length = m * de.size ∧ 0 < de.size ∧ de.zero.length = de.size ∧ (n + m) * de.bytes ≤ 140737488355328 ∧ n + m ≤ 9223372036854775807 ∧ de.zero.all (·.oneCell') = true)
          match y with
          | .sv b' off m => some (.ap b (de.size,e) m fun h => (h.at b').bind fun cells => if off + m * de.size ≤ cells.length ∧ fin m (((cells.drop off).take (m * de.size)).map C.noR) = true then some (((cells.drop off).take (m * de.size)).map C.noR) else none)
          | y => match src? y with
            | some (m,ys) => if fin m ys = true then some (.ap b (de.size,e) m fun _ => some ys) else none
            | none => none
    | _ => none
  | _,_ => none
def convG (P : Program) (src dst : TypeId) (c : C) : Option Plan :=
  match td P src,td P dst with
  | some ds,some dd => match ds.u,dd.u,c with
    | .string,.slice e,.val (.string s) => match td P e with
      | some de => (match de.u with
        | .int .u8 => if s.size ≤ 140737488355328 then some (.ap none (1,e) s.size fun _ => some (s.data.toList.map byteC)) else none
        | _ => none)
      | none => none
    | _,_,_ => none
  | _,_ => none
def sliceG (P : Program) (t : TypeId) (b n : Nat) (s : Nat × Nat) (hi : Option C) : Option Plan :=
  match td P t with
  | some d => match d.u with
    | .slice e => match td P e,bound? hi n n with
      | some de,some h => if (de.size,e) = s then some (.pure (.gv b h s)) else none
      | _,_ => none
    | _ => none
  | none => none
def copyPlan (P : Program) (t : TypeId) (x y : C) : Option Plan :=
  match td P t with
  | none => none
  | some d =>
    match d.u with
    | .slice e => match td P e with
      | none => none
      | some de => match x,src? y with
        | .sv b off n,some (m,ys) =>
          if ys.length = m * de.size ∧ 0 < n then some (.wr b (fun cells => if off + n * de.size ≤ cells.length then some (splice cells off ((ys.take (min m n * de.size)).map C.noR),.val (.int .i64 (min m n : Nat))) else none) none) else none
        | _,_ => none
    | _ => none
def lenPlan (P : Program) (t : TypeId) (x : C) : Option Plan :=
  match td P t with
  | none => none
  | some d =>
    match d.u,x with
    | .string,.val (.string s) => some (.pure (.val (.int .i64 s.size)))
    | .array n _,_ => some (.pure (.val (.int .i64 n)))
    | .slice _,.sv _ _ n => some (.pure (.val (.int .i64 n)))
    | .slice _,x => x.sl?.map fun r => .pure (.val (.int .i64 r.1))
    | _,_ => none
def C.nilS? : C → Option Bool
  | .val (.slice a _ _) => some a.isNone
  | .sl _ _ (_ :: _) => some false
  | .sv _ _ (_ + 1) => some false
  | .gv _ (_ + 1) _ => some false
  | _ => none
def C.nilP? : C → Option Bool
  | .val (.pointer none) => some true
  | .bp _ _ => some false
  | .bt _ _ _ => some false
  | .kp _ => some false
  | _ => none
def nilE : Option Bool → Option Bool → Option Bool
  | some true,some b => some b
  | some a,some true => some a
  | _,_ => none
def eqEs (f : C → C → Option Bool) (de : TD) (xs ys : List C) : List Nat → Option Bool
  | [] => some true
  | i :: l => match getAt de xs (i * de.size),getAt de ys (i * de.size) with
    | some a,some b => (match f a b with
      | some true => eqEs f de xs ys l
      | r => r)
    | _,_ => none
def eqFs (P : Program) (f : TypeId → C → C → Option Bool) (xs ys : List C) : List Field → Option Bool
  | [] => some true
  | fd :: l => if fd.name ≠ "_" then (match td P fd.type with
    | some de => (match getAt de xs fd.offset,getAt de ys fd.offset with
      | some a,some b => (match f fd.type a b with
        | some true => eqFs P f xs ys l
        | r => r)
      | _,_ => none)
    | none => none) else eqFs P f xs ys l
def eqC (P : Program) : Nat → TypeId → C → C → Option Bool
  | 0,_,_,_ => none
  | d + 1,t,x,y => match td P t with
    | none => none
    | some dt => match dt.u with
      | .bool => (match x,y with
        | .val (.bool a),.val (.bool b) => some (a == b)
        | _,_ => none)
      | .int _ => (match x,y with
        | .val (.int k a),.val (.int k' b) => if k = k' then some (a == b) else none
        | _,_ => none)
      | .string => (match x,y with
        | .val (.string a),.val (.string b) => some (a.toList == b.toList)
        | _,_ => none)
      | .struct fields => if P.stoodInHeld t = true then none else (match x.agg?,y.agg? with
        | some xs,some ys => eqFs P (eqC P d) xs ys fields.toList
        | _,_ => none)
      | .array n e => (match td P e,x.agg?,y.agg? with
        | some de,some xs,some ys => eqEs (eqC P d e) de xs ys (List.range' 0 n)
        | _,_,_ => none)
      | .slice _ => nilE x.nilS? y.nilS?
      | .pointer _ => nilE x.nilP? y.nilP?
      | _ => none
def eqPlan (P : Program) (op : BinOp) (t : TypeId) (x y : C) : Option Plan :=
  if ((x.agg?.isSome = true ∧ y.agg?.isSome = true) ∨ (x.nilS?.isSome = true ∧ y.nilS?.isSome = true) ∨ (x.nilP?.isSome = true ∧ y.nilP?.isSome = true)) ∧ P.eqGuardType P.depth t = false then
    match op with
    | .eql => (eqC P 9 t x y).map fun b => .pure (.val (.bool b))
    | .neq => (eqC P 9 t x y).map fun b => .pure (.val (.bool !b))
    | _ => none
  else none
def binPlan (P : Program) (op : BinOp) (t : TypeId) (x y : C) : Option Plan :=
  match x,y with
  | .val a,.val b => match a,b,td P t with
    | .bool _,.bool _,some d => (match d.u with | .bool => (sbin op a b).map fun v => .pure (.val v) | _ => none)
    | .int _ _,.int _ _,_ => (sbin op a b).map fun v => .pure (.val v)
    | .string _,.string _,_ => (sbin op a b).map fun v => .pure (.val v)
    | _,_,_ => eqPlan P op t x y
  | _,_ => eqPlan P op t x y
def unPlan (op : UnOp) (x : C) : Option Plan :=
  match op,x with
  | .neg,.val (.int k n) => some (.pure (.val (.int k (k.wrap (0 - n)))))
  | .xor,.val (.int k n) => some (.pure (.val (.int k (k.wrap (BitVec.ofInt k.bits (if k.signed then -1 else k.max) ^^^ BitVec.ofInt k.bits n).toNat))))
  | .not,.val (.bool b) => some (.pure (.val (.bool !b)))
  | _,_ => none
mutual
def noRef (k : Nat) : C → Bool
  | .sl _ _ xs => noRefs k xs
  | .sv b _ _ => decide (b < k)
  | .bp b _ => decide (b < k)
  | .kp xs => noRefs k xs
  | .agg xs => noRefs k xs
  | .tup xs => noRefs k xs
  | .fn _ xs => noRefs k xs
  | .top => true
  | .val _ => true
  | .gv b _ _ => decide (b < k)
  | .mp b => decide (b < k)
  | .bt b _ _ => decide (b < k)
def noRefs (k : Nat) : List C → Bool
  | [] => true
  | x :: xs => noRef k x && noRefs k xs
end
mutual
def flat : C → Bool
  | .val _ => true
  | .agg xs => flats xs
  | .tup xs => flats xs
  | _ => false
def flats : List C → Bool
  | [] => true
  | x :: xs => flat x && flats xs
end
def frz1 (b : Nat) (cells : List C) : C → C
  | .sv b' off n => if b' = b ∧ off + n ≤ cells.length then .sl .no n (((cells.drop off).take n).map C.noR) else .sv b' off n
  | .bp b' off => if b' = b then .kp ((cells.drop off).map C.noR) else .bp b' off
  | .gv b' n s => if b' = b ∧ n * s.1 ≤ cells.length then .sl .no n ((cells.take (n * s.1)).map C.noR) else .gv b' n s
  | c => c
def frzs1 (b : Nat) (cells : List C) : List C → List C
  | [] => []
  | c :: l => frz1 b cells c :: frzs1 b cells l
def oneB (b : Nat) : List C → Option Nat
  | [] => some b
  | .sv b' _ _ :: l => if b' = b then oneB b l else none
  | .bp b' _ :: l => if b' = b then oneB b l else none
  | .gv b' _ _ :: l => if b' = b then oneB b l else none
  | _ :: l => oneB b l
def refBox : List C → Option Nat
  | [] => none
  | .sv b _ _ :: l => oneB b l
  | .bp b _ :: l => oneB b l
  | .gv b _ _ :: l => oneB b l
  | _ :: l => refBox l
def rdPu (cx : Cx) (g : Nat) (az : List C) (b : Nat) (cells : List C) : Option C :=
  if noRefs 0 (frzs1 b cells az) = true then (match cx.pu g (frzs1 b cells az) with
    | some c => if flat c = true then some c else none
    | none => none) else none
mutual
def dpC (b : Nat) (ys : List C) : C → C
  | .gv b' n s => if b' = b ∧ n * s.1 ≤ ys.length then .sl .no n (ys.take (n * s.1)) else .gv b' n s
  | .sl r n xs => .sl r n (dpCs b ys xs)
  | .agg xs => .agg (dpCs b ys xs)
  | c => c
def dpCs (b : Nat) (ys : List C) : List C → List C
  | [] => []
  | x :: xs => dpC b ys x :: dpCs b ys xs
end
def rdE (cx : Cx) (g : Nat) (az : List C) (b : Nat) (cells : List C) : Option C :=
  if noRefs 0 (dpCs b (cells.map C.noR) az) = true then (match cx.pu g (dpCs b (cells.map C.noR) az) with
    | some c => if flat c = true then some c else none
    | none => none) else none
def callPlan (cx : Cx) (f : C) (args : List C) : Option Plan :=
  match f with
  | .fn g caps =>
    let az := args.map C.share ++ caps
    match cx.pu g az with
    | some c => some (.pure c)
    | none => match refBox az with
      | some b => if (cx.hp g az []).isSome then some (.call g az) else some (.rd b (rdPu cx g az b))
      | none => if cx.gr (1000000 + g) = true then some (.rd 0 (rdE cx g az 0)) else some (.call g az)
  | _ => none
def minMax (isMax : Bool) (x y : C) : Option Plan :=
  match x,y with
  | .val (.int k a),.val (.int k' b) => if k = k' then some (.pure (.val (.int k (if isMax then (if a < b then b else a) else (if b < a then b else a))))) else none
  | _,_ => none
def splan (cx : Cx) (ops : Array Oper) (o : Oper) (env : Nat → C) : Option Plan :=
  let ev := cx.evn env
  let P := cx.P
  match o.op with
  | .move x => match x with
    | .tmp p => some (if isMv ops o.dst then .val (env p) (some p) else .pure (env p).noR)
    | x => some (.pure (ev x))
  | .assign x => some (.val (cx.ev env x) (tmp? x))
  | .pick c a b => match ev c with
    | .val (.bool true) => some (.pure (ev a))
    | .val (.bool false) => some (.pure (ev b))
    | _ => none
  | .alloc t => match td P t with
    | some d => if d.zero.all (·.oneCell') then some (.new (d.zero.map .val) fun id => if o.dst.any cx.gr = true then .bt id t d.zero.length else .bp id 0) else none
    | none => none
  | .box _ x => (ev x).cells?.map fun cs => .new cs fun id => .bp id 0
  | .build t parts => match td P t with
    | some d => if d.zero.all (·.oneCell') = false then none else ((places P d.u).bind fun pl => lay pl (d.zero.map .val) (parts.toList.map fun x => (x.1,ev x.2))).map fun cs => .pure (.agg cs)
    | none => none
  | .buildSlice t n parts => match td P t with
    | some d => (match d.u with
      | .slice e => (match td P e with
        | some de => if n * de.size ≤ 65536 ∧ n ≤ 65536 ∧ de.zero.length = de.size ∧ de.zero.all (·.oneCell') = true then
            (lay (fun i => some (i * de.size,de.size)) (repZero de.zero n) (parts.toList.map fun x => (x.1,ev x.2))).map fun cs => if o.dst.any cx.gr = true then .ap none (de.size,e) n fun _ => some cs else .pure (.sl .full n cs) else none
        | none => none)
      | _ => none)
    | none => none
  | .load t x => loadPlan P (isApp ops o.dst) t (ev x)
  | .store t x y => storePlan P t (ev x) (cx.ev env y) (tmp? y)
  | .nilCheck x => match ev x with
    | .bp b k => some (.pure (.bp b k))
    | .bt b t n => some (.pure (.bt b t n))
    | .kp xs => some (.pure (.kp xs))
    | .fn f cs => some (.pure (.fn f cs))
    | _ => none
  | .binOp op t x y _ => binPlan P op t (ev x) (ev y)
  | .unOp op _ x => unPlan op (ev x)
  | .convert s d x => if o.dst.any cx.gr = true then convG P s d (ev x) else convPlan P s d (ev x).asSv
  | .sliceToArrayPointer t x => match td P t with
    | some d => (match d.u with
      | .array n e => (match td P e,ev x with
        | some _,.sv b off m => if n ≤ m ∧ n ≠ 0 then some (.pure (.bp b off)) else none
        | some _,.gv b m _ => if n ≤ m ∧ n ≠ 0 then some (.pure (.bp b 0)) else none
        | some de,c => (match c.sl? with
          | some (m,xs) => if n ≤ m ∧ xs ≠ [] ∧ xs.length = m * de.size then some (.pure (.kp xs)) else none
          | none => none)
        | _,_ => none)
      | _ => none)
    | none => none
  | .makeFunc (.func f) first caps => if first.isEmpty then some (.pure (.fn f (caps.toList.map fun x => (ev x).share))) else none
  | .makeSlice t l c => match td P t,(ev l).int?,(ev c).int? with
    | some d,some (_,n),some (_,m) => (match d.u with
      | .slice e => (match td P e with
        | some de => if 0 ≤ n ∧ n = m ∧ de.bytes * n ≤ 140737488355328 ∧ n ≤ 9223372036854775807 ∧ de.zero.length = de.size ∧ de.zero.all (·.oneCell') = true then some (.new (repZero de.zero n.toNat) fun id => if o.dst.any cx.gr = true then .gv id n.toNat (de.size,e) else .sv id 0 n.toNat) else none
        | none => none)
      | _ => none)
    | _,_,_ => none
  | .slice t x lo hi mx => match ev x,lo,mx with
    | .gv b n s,none,none => sliceG P t b n s (hi.map ev)
    | c,_,_ => slicePlan P t c.asSv (lo.map ev) (hi.map ev) (mx.map ev)
  | .fieldAddr t x f => fieldAddrPlan P t (ev x) f
  | .field t x f => fieldPlan P t (ev x) f
  | .indexAddr t x i => indexAddrPlan P t (ev x).asSv (ev i)
  | .index t x i => indexPlan P t (ev x) (ev i)
  | .extract x i => match ev x with
    | .tup xs => (xs[i]?).map fun c => .pure c.noR
    | _ => none
  | .call c => match c.callee with
    | .builtin b => (match b,c.args.toList,c.argTypes.toList with
      | .len,[x],[t] => lenPlan P t (ev x).asSv
      | .append,[x,y],[t,t2] => if o.dst.any cx.gr = true then growPlan P t t2 (ev x) (ev y).asSv else appendPlan P t t2 (cx.ev env x) (ev y).asSv (tmp? x)
      | .copy,[x,y],[t,_] => copyPlan P t (ev x).asSv (ev y).asSv
      | .min,[x,y],_ => minMax false (ev x) (ev y)
      | .max,[x,y],_ => minMax true (ev x) (ev y)
      | .delete,[x,y],[t,_] => mdelPlan cx t (ev x) (ev y)
      | _,_,_ => none)
    | .value f => callPlan cx (ev f) (c.args.toList.map ev)
    | .invoke _ _ => none
  | .makeMap t none => mnewPlan P t
  | .lookup t x k ok => mlookPlan cx t (ev x) (ev k) ok
  | .mapUpdate t m k x => mputPlan cx t (ev m) (ev k) (ev x)
  | _ => none
def put (d : Option Nat) (c : C) (env : Nat → C) : Nat → C := match d with
  | some d => fun t => if t = d then c else env t
  | none => env
def killS (k : Option Nat) (env : Nat → C) : Nat → C := match k with
  | some p => fun t => if t = p then (env p).noR else env t
  | none => env
def actH (cx : Cx) (id : Nat) (p : Plan) (h : Hp) : Option (C × Option Nat × Hp) :=
  match p with
  | .val c k => some (c,k,h)
  | .rd b f => ((h.at b).bind f).map fun c => (c,none,h)
  | .wr b f k => ((h.at b).bind f).map fun r => (r.2,k,h.set b (some r.1))
  | .xr b off => (h.at b).bind fun cells => (cells[off]?).map fun x => (x,none,h.set b (some (cells.set off x.noR)))
  | .new cells g => match h[id]? with
    | some none => some (g id,none,h.set id (some cells))
    | _ => none
  | .call f az => (cx.hp f az h).map fun r => (r.1,none,r.2)
  | .mo f => (f h).map fun r => (r.1,none,r.2)
  | .ap b s m ys => (ys h).bind fun cs => match b with
    | none => some (.gv h.length m s,none,h ++ [some (cs.map C.noR)])
    | some (b,n) => (h.at b).bind fun cells =>
      if (n + m) * s.1 ≤ cells.length ∧ (n ≠ 0 ∨ m = 0) then some (.gv b (n + m) s,none,h.set b (some (splice cells (n * s.1) (cs.map C.noR))))
      else if n * s.1 = cells.length then some (.gv h.length (n + m) s,none,h.set b (some deadC) ++ [some ((cells ++ cs).map C.noR)])
      else if n = 0 then some (.gv h.length (n + m) s,none,h.set b (some deadC) ++ [some (cs.map C.noR)]) else none
def act (cx : Cx) (id : Nat) (p : Plan) (st : St) : Option (C × St) := (actH cx id p st.h).map fun r => (r.1,⟨killS r.2.1 st.env,r.2.2⟩)
def wantedS (ops : Array Oper) (o : Oper) (env : Nat → C) : Option Bool :=
  match o.guard with
  | none => some true
  | some (j,want) => match (ops[j]?).bind (·.dst) with
    | none => some false
    | some t => match (env t).noR with
      | .val (.bool b) => some (b == want)
      | .val (.tuple _) => some false
      | _ => none
def makes (o : Oper) : Bool := match o.op with
  | .alloc _ | .box _ _ | .makeSlice _ _ _ => true
  | _ => false
def cnt (ops : Array Oper) (i : Nat) : Nat := (ops.toList.take i).countP makes
def dstOK (N : Nat) (d : Option Nat) : Bool := match d with
  | some d => decide (d < N)
  | none => true
def step (cx : Cx) (ops : Array Oper) (base i : Nat) (st : St) : Option St :=
  match ops[i]? with
  | none => none
  | some o => if dstOK cx.N o.dst = true then
      match wantedS ops o st.env with
      | none => none
      | some false => some ⟨put o.dst (.val undef) st.env,st.h⟩
      | some true => match splan cx ops o st.env with
        | none => none
        | some p => match act cx (base + cnt ops i) p st with
          | none => none
          | some (c,st') => some ⟨put o.dst c st'.env,st'.h⟩
    else none
def steps (cx : Cx) (ops : Array Oper) (base : Nat) : List Nat → St → Option St
  | [],st => some st
  | i :: l,st => (step cx ops base i st).bind (steps cx ops base l)
def sregion (cx : Cx) (ops : Array Oper) (st : St) : Option St :=
  steps cx ops st.h.length (List.range ops.size) ⟨st.env,st.h ++ List.replicate (cnt ops ops.size) none⟩
inductive Ex where
  | normal
  | exit (id : Nat)
  | ret
def resC (cx : Cx) (st : St) (r : ResultVar) : Option C :=
  match r with
  | .tmp t => some (st.env t)
  | .cell a t => match td cx.P t,st.env a with
    | some d,.bp b off => (st.h.at b).bind fun cells => getAt d cells off
    | _,_ => none
def results (cx : Cx) (fn : Func) (st : St) : Option C :=
  match fn.results.toList with
  | [r] => resC cx st r
  | rs => (rs.mapM (resC cx st)).map fun cs => .tup (cs.map C.noR)
def init (args : List C) : Nat → C := fun t => ((args[t]?).getD (.val undef)).noR
end Go.Sx
