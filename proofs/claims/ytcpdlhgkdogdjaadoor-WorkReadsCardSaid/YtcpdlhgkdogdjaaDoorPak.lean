/-
   And what follows.
-/
import Derived.SizedLaws
import Derived.JoinedCond
import Derived.Deep.CondSized
import Derived.Below
import Derived.Test.YtcpdlhgkdogdjaaDoorPaj
set_option linter.unusedSimpArgs false
set_option linter.unusedVariables false
namespace Go.Sx
open Go.RowKit
abbrev Dig := {l : List UInt8 // l.length = 16}
instance : Inhabited Dig := ⟨⟨List.replicate 16 0,by simp⟩⟩
def dC (d : Dig) : List C := cl bC d.1
instance : Cel dC 16 := ⟨fun a => by unfold dC; rw [cl_len (f := bC),a.2],fun a => by unfold dC; exact cl_noR a.1,by decide,fun a r => by
  unfold dC
  obtain ⟨l,hl⟩ := a
  cases l with
  | nil => simp at hl
  | cons b l => rfl⟩
instance : Fla dC := ⟨fun a => by unfold dC; exact flats_cl bC a.1⟩
instance : Inj dC := ⟨fun a b h => Subtype.ext (cl_inj.1 h)⟩
def res2 (a b : Option C) : Option C := match a,b with
  | some a,some b => some (.tup [a.noR,b.noR])
  | _,_ => none
theorem resL_2 (cx : Cx) (st : St) (r1 r2 : ResultVar) : resL cx st [r1,r2] = res2 (resC cx st r1) (resC cx st r2) := by
  unfold resL res2
  simp only [List.mapM_cons,List.mapM_nil,Option.bind_eq_bind,Option.pure_def]
  cases resC cx st r1 <;> cases resC cx st r2 <;> rfl
theorem res2_some (a b : C) : res2 (some a) (some b) = some (.tup [a.noR,b.noR]) := rfl
attribute [go_sem] resL_2 res2_some
attribute [go_sem] apQ_ownsv apR_cl
end Go.Sx
namespace Go.Sx
open Go.RowKit
theorem lay1s_i (n : Nat) (l : List Int) (i : Nat) (x : Int) (r : List (Nat × C)) (h : i < l.length) : lay1s n (cl iC l) ((i,.val (.int .i64 x)) :: r) = lay1s n (cl iC (l.set i x)) r := by
  have e := cl_set (f := iC) l i x h
  rw [Nat.mul_one] at e
  have e2 : splice (cl iC l) i [.val (.int .i64 x)] = cl iC (l.set i x) := e
  show (if [C.val (.int .i64 x)].length = 1 ∧ i + 1 ≤ (cl iC l).length then lay1s n (splice (cl iC l) i [.val (.int .i64 x)]) r else none) = _
  rw [if_pos ⟨rfl,by rw [cl_len (f := iC)]; omega⟩,e2]
theorem cl_nC_iC (l : List Nat) : cl nC l = cl iC (l.map Int.ofNat) := by
  unfold cl
  rw [List.flatMap_map]
  rfl
theorem lay1s_ni (n : Nat) (l : List Nat) (i : Nat) (x : Int) (r : List (Nat × C)) (h : i < l.length) : lay1s n (cl nC l) ((i,.val (.int .i64 x)) :: r) = lay1s n (cl iC ((l.map Int.ofNat).set i x)) r := by
  rw [cl_nC_iC,lay1s_i n _ i x r (by simpa using h)]
theorem lay1s_in (n : Nat) (l : List Int) (i : Nat) (x : Nat) (r : List (Nat × C)) (h : i < l.length) : lay1s n (cl iC l) ((i,.val (nI x)) :: r) = lay1s n (cl iC (l.set i x)) r := lay1s_i n l i x r h
theorem tkd {α : Type} (l : List α) (p : Nat) : List.take (l.length - p) (List.drop p l) = List.drop p l := by
  rw [← List.length_drop,List.take_length]
attribute [go_sem] lay1s_i lay1s_ni lay1s_in tkd List.map_cons List.map_nil List.set_cons_zero
end Go.Sx
namespace Go.Sx
open Go.RowKit
def EndsH (cx : Cx) (rs : List ResultVar) (c : C) (h' : Hp) : Ex → St → Prop
  | .exit _,_ => False
  | _,st => resL cx st rs = some c ∧ st.h = h'
theorem EndsH_r (cx : Cx) (rs : List ResultVar) (c : C) (h' : Hp) (st : St) : EndsH cx rs c h' .ret st = (resL cx st rs = some c ∧ st.h = h') := rfl
theorem FC.ofH {cx : Cx} {f : Nat} {fn : Func} {code : Code} {args : List C} {h h' : Hp} {c : C} {rs : List ResultVar} (hN : cx.N = fn.ntmps) (hf : cx.P.funcs[f]? = some fn) (hn : (fn.name == "runtime.NumGoroutine") = false) (hb : fn.body = some code)
    (hrs : fn.results = rs.toArray) (hlen : args.length ≤ fn.ntmps) (hT : Tr cx h.length code ⟨A (ini 0 args),h⟩ (EndsH cx rs c h')) : FC cx.P cx.gl f args h c h' := by
  refine FC.of hN hf hn hb hlen ?_
  refine Tr.weaken (fun t => CLe.init args t) (hT.mono fun x st q => ?_)
  have key : resL cx st rs = some c ∧ st.h = h' → results cx fn st = some c ∧ ((st.h.take h.length = h' ∧ noRef h.length c = true ∧ ∀ (b : Nat) cells,b < h.length → st.h[b]? = some (some cells) → noRefs h.length cells = true) ∨ st.h = h') := fun q => by
    refine ⟨?_,.inr q.2⟩
    rw [← q.1]
    unfold results
    rw [hrs]
    rcases rs with _ | ⟨r,_ | ⟨r2,rs⟩⟩ <;> rfl
  cases x with
  | exit k => exact q
  | normal => exact key q
  | ret => exact key q
theorem cells_sl {α : Type} (f : α → List C) (r : Rt) (l : List α) : (sl f r l).cells? = some [(sl f r l).noR] := rfl
theorem refBox_nil : refBox [] = none := rfl
attribute [go_sem] refBox_nil cells_sl EndsH_r
end Go.Sx
namespace Go.Sx
open Go.RowKit
def lC {α : Type} (f : α → List C) (l : List α) : List C := [sl f .no l]
instance {α : Type} (f : α → List C) : Sca (lC f) (sl f .no) := ⟨fun _ => rfl,fun _ => rfl,fun _ => rfl,fun _ _ => rfl⟩
instance {α : Type} (f : α → List C) [h : Nrf f] : Nrf (lC f) := ⟨fun k l => by simp only [lC,noRefs,noRef_sl,Bool.and_self]⟩
attribute [go_sem] List.nil_append List.cons_append
end Go.Sx
namespace Go.Sx
open Go.RowKit
open Classical in
noncomputable def tabH {α : Type} (enc : α → List C × Hp) (out : α → C × Hp) (xs : List C) (h : Hp) : Option (C × Hp) :=
  if q : ∃ a,enc a = (xs,h) then some (out q.choose) else none
theorem tabH_enc {α : Type} {enc : α → List C × Hp} {out : α → C × Hp} (hi : ∀ a b,enc a = enc b → out a = out b) (a : α) : tabH enc out (enc a).1 (enc a).2 = some (out a) := by
  have h : ∃ b,enc b = ((enc a).1,(enc a).2) := ⟨a,rfl⟩
  unfold tabH
  rw [dif_pos h]
  exact congrArg some (hi _ _ h.choose_spec)
theorem tabH_some {α : Type} {enc : α → List C × Hp} {out : α → C × Hp} {xs : List C} {h : Hp} {r : C × Hp} (e : tabH enc out xs h = some r) : ∃ a,enc a = (xs,h) ∧ out a = r := by
  unfold tabH at e
  split at e
  · rename_i h2; exact ⟨_,h2.choose_spec,Option.some.inj e⟩
  · cases e
def extH (hp : Nat → List C → Hp → Option (C × Hp)) (f : Nat) (t : List C → Hp → Option (C × Hp)) : Nat → List C → Hp → Option (C × Hp) := fun g xs h => if g = f then t xs h else hp g xs h
theorem extH_hit {hp : Nat → List C → Hp → Option (C × Hp)} {f : Nat} {t : List C → Hp → Option (C × Hp)} (xs : List C) (h : Hp) : extH hp f t f xs h = t xs h := if_pos rfl
theorem extH_miss {hp : Nat → List C → Hp → Option (C × Hp)} {f g : Nat} {t : List C → Hp → Option (C × Hp)} (n : g ≠ f) (xs : List C) (h : Hp) : extH hp f t g xs h = hp g xs h := if_neg n
theorem CxOK.extH {P : Program} {km : TypeId → Value → Bool} {gl : Nat → C} {pu : Nat → List C → Option C} {hp : Nat → List C → Hp → Option (C × Hp)} {N M : Nat} (hcx : CxOK ⟨P,N,gl,pu,hp,fun _ => false,km,true⟩)
    {α : Type} {enc : α → List C × Hp} {out : α → C × Hp} {f : Nat} (h : ∀ a,FC P gl f (enc a).1 (enc a).2 (out a).1 (out a).2) : CxOK ⟨P,M,gl,pu,Sx.extH hp f (tabH enc out),fun _ => false,km,true⟩ := by
  refine ⟨hcx.glo,hcx.pu,fun g xs k c k' hc => ?_,hcx.km⟩
  by_cases hgf : g = f
  · subst hgf
    have hc' : tabH enc out xs k = some (c,k') := by rw [← hc]; exact (extH_hit xs k).symm
    obtain ⟨a,e1,e2⟩ := tabH_some hc'
    have := h a
    rw [e1,e2] at this
    exact this
  · have hc' : hp g xs k = some (c,k') := by rw [← hc]; exact (extH_miss hgf xs k).symm
    exact hcx.hp g xs k c k' hc'
end Go.Sx
namespace Go.Sx
open Go.RowKit Go.ChangeShapes Go.WideShapes
structure BulkOK {H : Type} (B : DataW H → Nat) (BA : List (DataW H) → Nat) : Prop where
  one : ∀ d,1 ≤ B d
  str : ∀ s,B (.lit (.string s)) = s.length + 1
  slice : ∀ e s,B (.slice e s) = BA e + BA s + 1
  agg : ∀ e,B (.agg e) = BA e + 1
  nil : BA [] = 0
  cons : ∀ d r,BA (d :: r) = B d + BA r
end Go.Sx
namespace Go.Sx
open Go.RowKit Go.ChangeShapes Go.WideShapes
end Go.Sx
namespace Go.Sx
open Go.RowKit
end Go.Sx
namespace Go.Sx
open Go.RowKit
def Cx.grow (cx : Cx) (l : List Nat) : Cx := { cx with gr := fun t => l.contains t }
section
variable {cx : Cx} {n : Nat} {st : St} {Q : Ex → St → Prop} {G : Gh} {w : World} {h : Hp}
theorem CxOK.grow (hcx : CxOK cx) (l : List Nat) : CxOK (cx.grow l) := ⟨hcx.glo,hcx.pu,hcx.hp,hcx.km⟩
theorem Sim.grow {a : Act} (H : Sim cx G w st a) (l : List Nat) : Sim (cx.grow l) G w st a := ⟨H.defers,H.size,H.pre.ok,H.pre.env,H.pre.glob⟩
theorem Sim.ungrow {a : Act} {l : List Nat} (H : Sim (cx.grow l) G w st a) : Sim cx G w st a := ⟨H.defers,H.size,H.pre.ok,H.pre.env,H.pre.glob⟩
theorem Tr.gw (l : List Nat) {c : Code} (H : Tr (cx.grow l) n c st Q) : Tr cx n c st Q := fun r hr G w a S R hR =>
  H r hr G w a (S.grow l) R fun x s G' w' a' q S' F => hR x s G' w' a' q S'.ungrow F
theorem Tr.rgG (hcx : CxOK cx) (gs : List Nat) {e : List (Nat × C)} {id : Nat} {l : List Oper} (apps : List Nat) (dsts : List (Option Nat)) (z : Hp) (h1 : l.filterMap appOf = apps) (h2 : l.map (·.dst) = dsts) (h3 : nones l = z)
    (H : run (cx.grow gs) apps dsts l h.length e (h ++ z) [] (fun _ s => Q .normal s)) : Tr cx n (.region id l.toArray false) ⟨A e,h⟩ Q :=
  Tr.gw gs (Tr.rg (hcx.grow gs) apps dsts z h1 h2 h3 H)
theorem Tr.rgDG (hcx : CxOK cx) (hm : cx.P.follows .mixedOrders = true) (gs : List Nat) {e : List (Nat × C)} {id : Nat} {l : List Oper} (apps : List Nat) (dsts : List (Option Nat)) (z : Hp) (h1 : l.filterMap appOf = apps) (h2 : l.map (·.dst) = dsts) (h3 : nones l = z)
    (hs : regStatic l.toArray = true)
    (H : run (cx.grow gs) apps dsts l h.length e (h ++ z) [] (fun fs s => confsOK l.toArray fs.reverse = true ∧ Q .normal s)) : Tr cx n (.region id l.toArray true) ⟨A e,h⟩ Q :=
  Tr.gw gs (Tr.rgD (hcx.grow gs) hm apps dsts z h1 h2 h3 hs H)
theorem Tr.virt {c : Code} (H : Tr cx n c ⟨st.env,st.h ++ [some []]⟩ Q) : Tr cx n c st Q := fun r hr G w a S R hR =>
  H r hr G w a ⟨S.defers,S.size,S.pre.ok.virt,S.pre.env,S.pre.glob⟩ R hR
theorem CLe.nilG (b : Nat) (s : Nat × Nat) : CLe (.val (.slice none 0 0)) (.gv b 0 s) :=
  ⟨fun G v h => by rw [rep_val] at h; simp only [Rep]; exact ⟨none,0,h,Nat.le_refl _,Nat.zero_le _,.inl ⟨trivial,rfl⟩⟩,fun s n xs e => by cases e⟩
def loc : List Nat → Nat → Nat → Option Nat
  | [],_,_ => none
  | x :: r,k,b => if b = x then some k else loc r (k + 1) b
theorem loc_some : ∀ {ρ : List Nat} {k b j : Nat},loc ρ k b = some j → k ≤ j ∧ ρ[j - k]? = some b
  | [],k,b,j,h => by cases h
  | x :: r,k,b,j,h => by
    simp only [loc] at h
    split at h
    · rename_i e; cases h; subst e; simp
    · obtain ⟨h1,h2⟩ := loc_some h
      refine ⟨by omega,?_⟩
      have : j - k = (j - (k + 1)) + 1 := by omega
      rw [this,List.getElem?_cons_succ]; exact h2
mutual
def mvC (ρ : List Nat) : C → C
  | .sv b o n => match loc ρ 0 b with | some j => .sv j o n | none => .top
  | .gv b n s => match loc ρ 0 b with | some j => .gv j n s | none => .top
  | .bp b o => match loc ρ 0 b with | some j => .bp j o | none => .top
  | .mp b => match loc ρ 0 b with | some j => .mp j | none => .top
  | .bt b t n => match loc ρ 0 b with | some j => .bt j t n | none => .top
  | .sl r n xs => .sl r n (mvCs ρ xs)
  | .kp xs => .kp (mvCs ρ xs)
  | .agg xs => .agg (mvCs ρ xs)
  | .tup xs => .tup (mvCs ρ xs)
  | .fn f xs => .fn f (mvCs ρ xs)
  | .top => .top
  | .val v => .val v
def mvCs (ρ : List Nat) : List C → List C
  | [] => []
  | x :: xs => mvC ρ x :: mvCs ρ xs
end
theorem mvCs_map (ρ : List Nat) : ∀ xs : List C,mvCs ρ xs = xs.map (mvC ρ)
  | [] => rfl
  | x :: xs => by simp [mvCs,mvCs_map ρ xs]
def mvH (ρ : List Nat) (h : Hp) : Hp := ρ.map fun b => ((h[b]?).getD none).map (mvCs ρ)
def mvG (ρ : List Nat) (G : Gh) : Gh where
  K := G.K
  μ := fun j => (ρ[j]?).bind G.μ
  T := fun g => match G.T g with
    | some p => if p.1 = 1 then (loc ρ 0 p.2.1).map (fun j => (1,j,p.2.2)) else some p
    | none => none
  σ := fun j => (ρ[j]?).bind G.σ
mutual
theorem mvC_rep {ρ : List Nat} : ∀ (c : C) (v : Value),Rep G c v → Rep (mvG ρ G) (mvC ρ c) v
  | .top,_,_ => by simp [mvC,Rep]
  | .val u,v,r => by simpa [mvC,Rep] using r
  | .sl r n xs,v,x => by
    simp only [mvC,Rep] at x ⊢
    obtain ⟨a,cap,h1,h2,h3,h4,h5⟩ := x
    refine ⟨a,cap,h1,h2,h3,h4,?_⟩
    rcases h5 with h5 | ⟨blk,off,ha,hk⟩
    · left; rw [h5]; rfl
    · exact .inr ⟨blk,off,ha,mvC_repK xs blk off hk⟩
  | .sv b off n,v,x => by
    simp only [mvC]
    cases hl : loc ρ 0 b with
    | none => simp [Rep]
    | some j =>
      have hj := (loc_some hl).2
      simp only [Rep] at x ⊢
      obtain ⟨a,cap,h1,h2,h3,h4⟩ := x
      exact ⟨a,cap,h1,h2,h3,fun hz => by obtain ⟨blk,q1,q2⟩ := h4 hz; exact ⟨blk,by simp only [mvG,Nat.sub_zero] at hj ⊢; rw [hj]; exact q1,q2⟩⟩
  | .gv b m s,v,x => by
    simp only [mvC]
    cases hl : loc ρ 0 b with
    | none => simp [Rep]
    | some j =>
      have hj := (loc_some hl).2
      simp only [Nat.sub_zero] at hj
      simp only [Rep] at x ⊢
      obtain ⟨a,cap,h1,h2,h3,h4⟩ := x
      refine ⟨a,cap,h1,h2,h3,?_⟩
      rcases h4 with h4 | ⟨blk,q1,q2,q3⟩
      · exact .inl h4
      · exact .inr ⟨blk,by simp only [mvG]; rw [hj]; exact q1,q2,by simp only [mvG]; rw [hj]; exact q3⟩
  | .bp b off,v,x => by
    simp only [mvC]
    cases hl : loc ρ 0 b with
    | none => simp [Rep]
    | some j =>
      have hj := (loc_some hl).2
      simp only [Nat.sub_zero] at hj
      simp only [Rep] at x ⊢
      obtain ⟨blk,h1,h2⟩ := x
      exact ⟨blk,by simp only [mvG]; rw [hj]; exact h1,h2⟩
  | .mp b,v,x => by
    simp only [mvC]
    cases hl : loc ρ 0 b with
    | none => simp [Rep]
    | some j =>
      have hj := (loc_some hl).2
      simp only [Nat.sub_zero] at hj
      simp only [Rep] at x ⊢
      obtain ⟨blk,h1,h2⟩ := x
      exact ⟨blk,by simp only [mvG]; rw [hj]; exact h1,h2⟩
  | .bt b t n,v,x => by
    simp only [mvC]
    cases hl : loc ρ 0 b with
    | none => simp [Rep]
    | some j =>
      have hj := (loc_some hl).2
      simp only [Nat.sub_zero] at hj
      simp only [Rep] at x ⊢
      obtain ⟨blk,h1,h2,h3⟩ := x
      exact ⟨blk,by simp only [mvG]; rw [hj]; exact h1,h2,by simp only [mvG]; rw [hj]; exact h3⟩
  | .kp xs,v,x => by
    simp only [mvC,Rep] at x ⊢
    obtain ⟨blk,off,h1,h2⟩ := x
    exact ⟨blk,off,h1,mvC_repK xs blk off h2⟩
  | .agg xs,v,x => by
    simp only [mvC,Rep] at x ⊢
    obtain ⟨vs,h1,h2,h3⟩ := x
    exact ⟨vs,h1,mvC_repL xs _ h2,h3⟩
  | .tup xs,v,x => by
    simp only [mvC,Rep] at x ⊢
    obtain ⟨vs,h1,h2⟩ := x
    exact ⟨vs,h1,mvC_repL xs _ h2⟩
  | .fn f xs,v,x => by
    simp only [mvC,Rep] at x ⊢
    obtain ⟨vs,h1,h2⟩ := x
    exact ⟨vs,h1,mvC_repL xs _ h2⟩
theorem mvC_repL {ρ : List Nat} : ∀ (xs : List C) (vs : List Value),RepL G xs vs → RepL (mvG ρ G) (mvCs ρ xs) vs
  | [],vs,r => by simpa [mvCs,RepL] using r
  | x :: xs,vs,r => by
    simp only [mvCs,RepL] at r ⊢
    obtain ⟨v,vs',h1,h2,h3⟩ := r
    exact ⟨v,vs',h1,mvC_rep x v h2,mvC_repL xs vs' h3⟩
theorem mvC_repK {ρ : List Nat} : ∀ (xs : List C) (blk off : Nat),RepK G blk off xs → RepK (mvG ρ G) blk off (mvCs ρ xs)
  | [],_,_,_ => by simp [mvCs,RepK]
  | x :: xs,blk,off,r => by
    simp only [mvCs,RepK] at r ⊢
    obtain ⟨⟨u,h1,h2,h3⟩,h4⟩ := r
    exact ⟨⟨u,h1,h2,mvC_rep x u h3⟩,mvC_repK xs blk (off + 1) h4⟩
end
theorem mvC_own {ρ : List Nat} {c : C} {s m : Nat} {xs : List C} (h : mvC ρ c = .sl (.own s) m xs) : ∃ ys,c = .sl (.own s) m ys := by
  cases c with
  | sl r k ys => simp only [mvC] at h; cases h; exact ⟨ys,rfl⟩
  | sv b o k => simp only [mvC] at h; split at h <;> cases h
  | gv b o k => simp only [mvC] at h; split at h <;> cases h
  | bp b o => simp only [mvC] at h; split at h <;> cases h
  | mp b => simp only [mvC] at h; split at h <;> cases h
  | bt b t n => simp only [mvC] at h; split at h <;> cases h
  | _ => simp only [mvC] at h; cases h
theorem mvH_at {ρ : List Nat} {j : Nat} {cells : List C} (hj : Hp.at (mvH ρ h) j = some cells) : ∃ b cells0,ρ[j]? = some b ∧ h.at b = some cells0 ∧ cells = mvCs ρ cells0 := by
  have h1 := Hp.at_some hj
  unfold mvH at h1
  rw [List.getElem?_map] at h1
  cases hb : ρ[j]? with
  | none => rw [hb] at h1; cases h1
  | some b =>
    rw [hb] at h1
    simp only [Option.map_some,Option.some.injEq] at h1
    cases hq : h[b]? with
    | none => rw [hq] at h1; cases h1
    | some o =>
      rw [hq] at h1
      cases o with
      | none => cases h1
      | some cells0 =>
        simp only [Option.getD_some,Option.map_some,Option.some.injEq] at h1
        refine ⟨b,cells0,rfl,?_,h1.symm⟩
        have hl := Hp.at_live hj
        unfold Hp.at
        rw [hq]
        subst h1
        show liveC (some cells0) = _
        cases cells0 with
        | nil => rfl
        | cons x l =>
          cases x with
          | tup xs => simp only [mvCs,mvC] at hl; cases hl
          | _ => rfl
theorem mvC_mrep {ρ : List Nat} : ∀ (l : List C) (es : List MapEntry),MRep G l es → MRep (mvG ρ G) (mvCs ρ l) es
  | [],_,r => by simpa [MRep,mvCs] using r
  | [_],_,r => by simp [MRep] at r
  | k :: v :: l,es,r => by
    simp only [MRep,mvCs] at r ⊢
    obtain ⟨e,es',h1,h2,h3,h4⟩ := r
    exact ⟨e,es',h1,mvC_rep k _ h2,mvC_rep v _ h3,mvC_mrep l es' h4⟩
theorem mvC_isVal {ρ : List Nat} {c : C} {u : Value} (h : mvC ρ c = .val u) : c = .val u := by
  cases c with
  | val v => simp only [mvC] at h; exact h
  | sv b o k => simp only [mvC] at h; split at h <;> cases h
  | gv b o k => simp only [mvC] at h; split at h <;> cases h
  | bp b o => simp only [mvC] at h; split at h <;> cases h
  | mp b => simp only [mvC] at h; split at h <;> cases h
  | bt b t n => simp only [mvC] at h; split at h <;> cases h
  | _ => simp only [mvC] at h; cases h
theorem mvC_isTup {ρ : List Nat} {c : C} {xs : List C} (h : mvC ρ c = .tup xs) : ∃ ys,c = .tup ys ∧ xs = mvCs ρ ys := by
  cases c with
  | tup ys => simp only [mvC] at h; cases h; exact ⟨ys,rfl,rfl⟩
  | sv b o k => simp only [mvC] at h; split at h <;> cases h
  | gv b o k => simp only [mvC] at h; split at h <;> cases h
  | bp b o => simp only [mvC] at h; split at h <;> cases h
  | mp b => simp only [mvC] at h; split at h <;> cases h
  | bt b t n => simp only [mvC] at h; split at h <;> cases h
  | _ => simp only [mvC] at h; cases h
theorem mpL_map {F : C → C} {Fs : List C → List C} (hs : ∀ xs,Fs xs = xs.map F) (hv : ∀ c u,F c = .val u → c = .val u) (ht : ∀ c xs,F c = .tup xs → ∃ ys,c = .tup ys ∧ xs = Fs ys) {cells l : List C} (h : mpL (some (Fs cells)) = some l) : ∃ l0,mpL (some cells) = some l0 ∧ l = Fs l0 := by
  cases cells with
  | nil => rw [hs] at h; cases h
  | cons c cs =>
    rw [hs,List.map_cons] at h
    cases hq : F c with
    | tup xs =>
      obtain ⟨ys,rfl,rfl⟩ := ht c xs hq
      rw [hq] at h
      cases ys with
      | nil => rw [hs] at h; cases h
      | cons y ys =>
        rw [hs,List.map_cons] at h
        cases hy : F y with
        | val u =>
          have := hv y u hy
          subst this
          rw [hy] at h
          cases u with
          | bool b =>
            cases b with
            | true => cases h; exact ⟨ys,rfl,(hs ys).symm⟩
            | false => cases h
          | _ => cases h
        | _ => rw [hy] at h; cases h
    | _ => rw [hq] at h; cases h
theorem mvH_mp {ρ : List Nat} {h : Hp} {j : Nat} {l : List C} (hj : Hp.mp (mvH ρ h) j = some l) : ∃ b l0,ρ[j]? = some b ∧ h.mp b = some l0 ∧ l = mvCs ρ l0 := by
  unfold Hp.mp mvH at hj
  rw [List.getElem?_map] at hj
  cases hb : ρ[j]? with
  | none => rw [hb] at hj; cases hj
  | some b =>
    rw [hb] at hj
    simp only [Option.map_some,Option.bind_some] at hj
    cases hq : h[b]? with
    | none => rw [hq] at hj; cases hj
    | some o =>
      rw [hq] at hj
      cases o with
      | none => cases hj
      | some cells0 =>
        obtain ⟨l0,h1,h2⟩ := mpL_map (Fs := mvCs ρ) (mvCs_map ρ) (fun _ _ => mvC_isVal) (fun _ _ => mvC_isTup) (cells := cells0) hj
        exact ⟨b,l0,rfl,by unfold Hp.mp; rw [hq]; exact h1,h2⟩
def okρ (n : Nat) (ρ : List Nat) : Prop := ρ.Nodup ∧ n ≤ ρ.length ∧ ∀ j,j < n → ρ[j]? = some j
theorem loc_of : ∀ {ρ : List Nat} {k j b : Nat},ρ.Nodup → ρ[j]? = some b → loc ρ k b = some (k + j)
  | x :: r,k,0,b,hn,h => by simp at h; subst h; simp [loc]
  | x :: r,k,j + 1,b,hn,h => by
    rw [List.getElem?_cons_succ] at h
    have hx : b ≠ x := fun e => by
      subst e
      exact (List.nodup_cons.1 hn).1 (List.mem_of_getElem? h)
    simp only [loc]
    rw [if_neg hx,loc_of (List.nodup_cons.1 hn).2 h]
    congr 1; omega
  | [],k,j,b,hn,h => by simp at h
theorem OwnRow.mv {ρ : List Nat} {p p' : Place} {v : Value} {s m : Nat} (O : OwnRow G w p v s m) (hp : (p.1 ≠ 1 ∧ p' = p) ∨ (p.1 = 1 ∧ ∃ j,loc ρ 0 p.2.1 = some j ∧ p' = (1,j,p.2.2))) : OwnRow (mvG ρ G) w p' v s m := by
  rcases O with O | ⟨g,cap,cur,e,a1,a2,a3,a4,a5,a6⟩
  · exact .inl O
  · refine .inr ⟨g,cap,cur,e,a1,?_,a3,a4,a5,fun b hb => ?_⟩
    · simp only [mvG,a2]
      rcases hp with ⟨h1,rfl⟩ | ⟨h1,j,h2,rfl⟩
      · rw [if_neg h1]
      · rw [if_pos h1,h2]; rfl
    · simp only [mvG] at hb
      cases hq : ρ[b]? with
      | none => rw [hq] at hb; cases hb
      | some q => rw [hq] at hb; exact a6 q hb
theorem WorldOK.mv {ρ : List Nat} (H : WorldOK G h w) (hρ : ρ.Nodup) : WorldOK (mvG ρ G) (mvH ρ h) w := by
  have hμ : ∀ {j blk},(mvG ρ G).μ j = some blk → ∃ b,ρ[j]? = some b ∧ G.μ b = some blk := fun {j blk} x => by
    simp only [mvG] at x
    cases hq : ρ[j]? with
    | none => rw [hq] at x; cases x
    | some q => rw [hq] at x; exact ⟨q,rfl,x⟩
  refine ⟨H.known,fun j cells hj => ?_,fun j blk hm => ?_,fun j j' c c' blk hj hj' hm hm' => ?_,fun j blk hm => ?_,fun g p hg => ?_,fun j cells off s m xs blk v hj hc hm hv => ?_,fun j z hz => ?_,fun j l hj => ?_,fun j j' l l' blk x x' y y' => ?_⟩
  · obtain ⟨b,cells0,h1,h2,rfl⟩ := mvH_at hj
    rcases H.box b cells0 h2 with ⟨hE,hE2⟩ | ⟨blk,cs,e,q1,q2,q3,q4,q5⟩
    · exact .inl ⟨by rw [hE]; rfl,by simp only [mvG,h1]; exact hE2⟩
    · have hl : (mvCs ρ cells0).length = cells0.length := by rw [mvCs_map]; simp
      exact .inr ⟨blk,cs,e,by simp only [mvG,h1]; exact q1,q2,by rw [hl]; exact q3,by rw [hl]; exact mvC_repL _ _ q4,q5⟩
  · obtain ⟨b,h1,h2⟩ := hμ hm
    obtain ⟨⟨c,hc⟩,hl⟩ := H.dom b blk h2
    refine ⟨⟨mvCs ρ c,?_⟩,hl⟩
    unfold mvH
    rw [List.getElem?_map,h1]
    simp [hc]
  · obtain ⟨b,h1,h2⟩ := hμ hm
    obtain ⟨b',h1',h2'⟩ := hμ hm'
    obtain ⟨q,cells0,g1,g2,_⟩ := mvH_at hj
    obtain ⟨q',cells0',g1',g2',_⟩ := mvH_at hj'
    rw [h1] at g1; cases g1
    rw [h1'] at g1'; cases g1'
    have e := H.inj b b' _ _ blk g2 g2' h2 h2'
    subst e
    have l1 := loc_of (k := 0) hρ h1
    have l2 := loc_of (k := 0) hρ h1'
    rw [l1] at l2
    simpa using l2
  · obtain ⟨b,h1,h2⟩ := hμ hm
    obtain ⟨s1,s2⟩ := H.sep b blk h2
    exact ⟨s1,by simp only [mvG,s2]⟩
  · cases hq : G.T g with
    | none => simp only [mvG,hq] at hg; cases hg
    | some q => exact H.tlt g q hq
  · obtain ⟨b,cells0,h1,h2,rfl⟩ := mvH_at hj
    obtain ⟨b',h1',h2'⟩ := hμ hm
    rw [h1] at h1'; cases h1'
    rw [mvCs_map,List.getElem?_map] at hc
    cases hq : cells0[off]? with
    | none => rw [hq] at hc; cases hc
    | some y =>
      rw [hq] at hc
      simp only [Option.map_some,Option.some.injEq] at hc
      obtain ⟨ys,rfl⟩ := mvC_own hc
      have O := H.own b cells0 off s m ys blk v h2 hq h2' hv
      have l1 := loc_of (k := 0) hρ h1
      exact O.mv (.inr ⟨rfl,j,by simpa using l1,rfl⟩)
  · simp only [mvG] at hz
    cases hq : ρ[j]? with
    | none => rw [hq] at hz; cases hz
    | some b =>
      rw [hq] at hz
      obtain ⟨blk,cs,e,fr,q1,q2,q3⟩ := H.siz b z hz
      exact ⟨blk,cs,e,fr,by simp only [mvG,hq]; exact q1,q2,q3⟩
  · obtain ⟨b,l0,h1,h2,rfl⟩ := mvH_mp hj
    obtain ⟨blk,es,clk,q1,q2,q3⟩ := H.mpo b l0 h2
    exact ⟨blk,es,clk,by simp only [mvG,h1]; exact q1,q2,mvC_mrep l0 _ q3⟩
  · obtain ⟨b,l0,h1,h2,rfl⟩ := mvH_mp x
    obtain ⟨b',l0',h1',h2',rfl⟩ := mvH_mp x'
    obtain ⟨q,g1,g2⟩ := hμ y
    obtain ⟨q',g1',g2'⟩ := hμ y'
    rw [h1] at g1; cases g1
    rw [h1'] at g1'; cases g1'
    have e := H.mpi b b' _ _ blk h2 h2' g2 g2'
    subst e
    have l1 := loc_of (k := 0) hρ h1
    have l2 := loc_of (k := 0) hρ h1'
    rw [l1] at l2
    simpa using l2
theorem frmN_mv {ρ : List Nat} (hρ : okρ n ρ) : FrmN n G w (mvG ρ G) w :=
  ⟨rfl,rfl,rfl,Nat.le_refl _,fun _ _ _ x => x,fun b k hb x => by simp only [mvG]; rw [hρ.2.2 b hb]; exact x,fun b k hb x => by simp only [mvG]; rw [hρ.2.2 b hb]; exact x,
    fun g _ ht hm => ⟨rfl,by simp only [mvG,ht],fun j hj => by
      simp only [mvG] at hj
      cases hq : ρ[j]? with
      | none => rw [hq] at hj; cases hj
      | some q => rw [hq] at hj; exact hm q hj,fun _ => rfl⟩⟩
theorem mvC_noRef {ρ : List Nat} {c : C} {v : Value} (hc : noRef 0 c = true) (h : Rep G c v) : Rep (mvG ρ G) c v := by
  have h1 := noRef_rep c v hc h
  have le : (cutμ G 0).Le (mvG ρ G) := ⟨fun _ _ _ x => x,fun b k x => by simp [cutμ] at x,fun b k x => by simp [cutμ] at x⟩
  exact h1.mono le
theorem Sim.mv (hcx : CxOK cx) {a : Act} {ρ : List Nat} (hρ : ρ.Nodup) (H : Sim cx G w st a) : Sim cx (mvG ρ G) w ⟨fun t => mvC ρ (st.env t),mvH ρ st.h⟩ a :=
  ⟨H.defers.same (fun g h => by simp only [mvG,h]) (fun g h b hb => by
      simp only [mvG] at hb
      cases hq : ρ[b]? with
      | none => rw [hq] at hb; cases hb
      | some j => rw [hq] at hb; exact h j hb),H.size,H.pre.ok.mv hρ,⟨fun t => mvC_rep _ _ (H.pre.env.1 t),fun t s m xs e => by
    obtain ⟨ys,hy⟩ := mvC_own e
    exact (H.pre.env.2 t s m ys hy).mv (.inl ⟨by simp,rfl⟩)⟩,fun g => mvC_noRef (hcx.glo g) (H.pre.glob g)⟩
theorem Tr.mv (hcx : CxOK cx) {c : Code} (ρ : List Nat) (hρ : okρ n ρ) (H : Tr cx n c ⟨fun t => mvC ρ (st.env t),mvH ρ st.h⟩ Q) : Tr cx n c st Q := fun r hr G w a S R hR =>
  H r hr (mvG ρ G) w a (S.mv hcx hρ.1) R fun x s G' w' a' q S' F => hR x s G' w' a' q S' ((frmN_mv hρ).transA F)
def MvQ (n : Nat) (P : St → Prop) (s : St) : Prop := ∃ ρ : List Nat,okρ n ρ ∧ P ⟨fun t => mvC ρ (s.env t),mvH ρ s.h⟩
theorem Tr.loopM {α : Type} (hcx : CxOK cx) (I : α → List (Nat × C)) (H : α → Hp) (ok : α → Prop) (μ : α → Nat) {c : Code} (a : α) (h0 : ok a) (hl : Le st.env (I a)) (hh : st.h = H a)
    (hb : ∀ a,ok a → Tr cx n c ⟨A (I a),H a⟩ (thenQ (MvQ n (At I H fun a' => ok a' ∧ μ a' < μ a)) Q)) : Tr cx n (.loop c) st Q := by
  refine Tr.loop (fun m s => ∃ ρ,okρ n ρ ∧ ∃ a,μ a = m ∧ ok a ∧ Le (fun t => mvC ρ (s.env t)) (I a) ∧ mvH ρ s.h = H a ∨ (μ a = m ∧ ok a ∧ Le s.env (I a) ∧ s.h = H a)) (μ a) ⟨List.range n,⟨List.nodup_range,by simp,fun j hj => by simp [hj]⟩,a,.inr ⟨rfl,h0,hl,hh⟩⟩ ?_
  rintro m s ⟨ρ,hρ,a,⟨rfl,h1,h2,h3⟩ | ⟨rfl,h1,h2,h3⟩⟩
  · refine Tr.mv hcx ρ hρ (Tr.live _ h2 ?_)
    rw [h3]
    refine (hb a h1).mono fun e s q => ?_
    cases e with
    | normal =>
      obtain ⟨ρ',hρ',a',⟨q1,q2⟩,q3,q4⟩ := q
      exact ⟨μ a',q2,ρ',hρ',a',.inl ⟨rfl,q1,q3,q4⟩⟩
    | exit id => exact q
    | ret => exact q
  · refine Tr.live _ h2 ?_
    rw [h3]
    refine (hb a h1).mono fun e s q => ?_
    cases e with
    | normal =>
      obtain ⟨ρ',hρ',a',⟨q1,q2⟩,q3,q4⟩ := q
      exact ⟨μ a',q2,ρ',hρ',a',.inl ⟨rfl,q1,q3,q4⟩⟩
    | exit id => exact q
    | ret => exact q
end
end Go.Sx
namespace Go.Sx
open Go.RowKit
def okF (h : Hp) (b b' : Nat) : Bool := ((h.at b').isSome || (h.mp b').isSome) && b' != b
mutual
def scr (ok : Nat → Bool) : C → C
  | .sv b o n => if ok b = true then .sv b o n else .top
  | .gv b n s => if ok b = true then .gv b n s else .top
  | .bp b o => if ok b = true then .bp b o else .top
  | .mp b => if ok b = true then .mp b else .top
  | .bt b t n => if ok b = true then .bt b t n else .top
  | .sl r n xs => .sl r n (scrs ok xs)
  | .kp xs => .kp (scrs ok xs)
  | .agg xs => .agg (scrs ok xs)
  | .tup xs => .tup (scrs ok xs)
  | .fn f xs => .fn f (scrs ok xs)
  | .top => .top
  | .val v => .val v
def scrs (ok : Nat → Bool) : List C → List C
  | [] => []
  | x :: xs => scr ok x :: scrs ok xs
end
mutual
def fzC (ok : Nat → Bool) (b : Nat) (ys : List C) : C → C
  | .sv b' o n => if b' = b then (if o + n ≤ ys.length then .sl .no n ((ys.drop o).take n) else .top) else if ok b' = true then .sv b' o n else .top
  | .gv b' n s => if b' = b then (if n * s.1 ≤ ys.length then .sl .no n (ys.take (n * s.1)) else .top) else if ok b' = true then .gv b' n s else .top
  | .bp b' o => if b' = b then .kp (ys.drop o) else if ok b' = true then .bp b' o else .top
  | .mp b' => if b' = b then .top else if ok b' = true then .mp b' else .top
  | .bt b' t n => if b' = b then .top else if ok b' = true then .bt b' t n else .top
  | .sl r n xs => .sl r n (fzCs ok b ys xs)
  | .kp xs => .kp (fzCs ok b ys xs)
  | .agg xs => .agg (fzCs ok b ys xs)
  | .tup xs => .tup (fzCs ok b ys xs)
  | .fn f xs => .fn f (fzCs ok b ys xs)
  | .top => .top
  | .val v => .val v
def fzCs (ok : Nat → Bool) (b : Nat) (ys : List C) : List C → List C
  | [] => []
  | x :: xs => fzC ok b ys x :: fzCs ok b ys xs
end
theorem scrs_map (ok : Nat → Bool) : ∀ xs : List C,scrs ok xs = xs.map (scr ok)
  | [] => rfl
  | x :: xs => by simp [scrs,scrs_map ok xs]
theorem fzCs_map (ok : Nat → Bool) (b : Nat) (ys : List C) : ∀ xs : List C,fzCs ok b ys xs = xs.map (fzC ok b ys)
  | [] => rfl
  | x :: xs => by simp [fzCs,fzCs_map ok b ys xs]
def fzH (ok : Nat → Bool) (b : Nat) (ys : List C) (h : Hp) : Hp := (h.map fun o => o.map (fzCs ok b ys)).set b (some deadC)
open Classical in
noncomputable def fzG (G : Gh) (w : World) (b k : Nat) : Gh where
  K := fun g o => if G.μ b = some g ∧ o < k then w.cell? ⟨g,o,none⟩ else G.K g o
  μ := fun b' => if b' = b ∨ (∃ g,G.μ b = some g ∧ G.μ b' = some g) then none else G.μ b'
  T := G.T
  σ := fun b' => if b' = b ∨ (∃ g,G.μ b = some g ∧ G.μ b' = some g) then none else G.σ b'
section
variable {cx : Cx} {n : Nat} {st : St} {Q : Ex → St → Prop} {G : Gh} {w : World} {h : Hp} {b : Nat} {cells : List C}
theorem fz_keep (H : WorldOK G h w) (hb : h.at b = some cells) {b' : Nat} (hok : okF h b b' = true) : ¬ (b' = b ∨ (∃ g,G.μ b = some g ∧ G.μ b' = some g)) := by
  simp only [okF,Bool.and_eq_true,Bool.or_eq_true,bne_iff_ne,ne_eq] at hok
  obtain ⟨h1,h2⟩ := hok
  rintro (e | ⟨g,e1,e2⟩)
  · exact h2 e
  · rcases h1 with h1 | h1
    · obtain ⟨c',hc'⟩ := Option.isSome_iff_exists.1 h1
      exact h2 (H.inj b' b _ _ g hc' hb e2 e1)
    · obtain ⟨l',hl'⟩ := Option.isSome_iff_exists.1 h1
      obtain ⟨blk,es,clk,q1,q2,_⟩ := H.mpo b' l' hl'
      rw [e2] at q1; cases q1
      obtain ⟨cs,e,⟨fr,r2,_⟩,_⟩ := H.bx hb e1
      rw [q2] at r2; cases r2
theorem fz_le (H : WorldOK G h w) (k : Nat) : (cutμ G 0).Le (fzG G w b k) :=
  ⟨fun g o u x => (by
    have x' : G.K g o = some u := x
    simp only [fzG]
    rw [if_neg]
    · exact x'
    · rintro ⟨e,_⟩
      rw [(H.sep b g e).1 o] at x'; cases x'),fun b k x => by simp [cutμ] at x,fun b k x => by simp [cutμ] at x⟩
theorem fz_μ (H : WorldOK G h w) (hb : h.at b = some cells) {b' k g : Nat} (hok : okF h b b' = true) (hm : G.μ b' = some g) : (fzG G w b k).μ b' = some g := by
  simp only [fzG]; rw [if_neg (fz_keep H hb hok)]; exact hm
theorem fz_σ (H : WorldOK G h w) (hb : h.at b = some cells) {b' k : Nat} {g : Nat × Nat} (hok : okF h b b' = true) (hm : G.σ b' = some g) : (fzG G w b k).σ b' = some g := by
  simp only [fzG]; rw [if_neg (fz_keep H hb hok)]; exact hm
mutual
theorem scr_rep (H : WorldOK G h w) (hb : h.at b = some cells) (k : Nat) : ∀ (c : C) (v : Value),Rep G c v → Rep (fzG G w b k) (scr (okF h b) c) v
  | .top,_,_ => by simp [scr,Rep]
  | .val u,v,r => by simpa [scr,Rep] using r
  | .sl r n xs,v,x => by
    simp only [scr,Rep] at x ⊢
    obtain ⟨a,cap,h1,h2,h3,h4,h5⟩ := x
    refine ⟨a,cap,h1,h2,h3,h4,?_⟩
    rcases h5 with h5 | ⟨blk,off,ha,hk⟩
    · left; rw [h5]; rfl
    · exact .inr ⟨blk,off,ha,scr_repK H hb k xs blk off hk⟩
  | .sv b' off n,v,x => by
    simp only [scr]
    split
    · rename_i hok
      simp only [Rep] at x ⊢
      obtain ⟨a,cap,h1,h2,h3,h4⟩ := x
      exact ⟨a,cap,h1,h2,h3,fun hz => by obtain ⟨blk,q1,q2⟩ := h4 hz; exact ⟨blk,fz_μ H hb hok q1,q2⟩⟩
    · simp [Rep]
  | .gv b' m s,v,x => by
    simp only [scr]
    split
    · rename_i hok
      simp only [Rep] at x ⊢
      obtain ⟨a,cap,h1,h2,h3,h4⟩ := x
      refine ⟨a,cap,h1,h2,h3,?_⟩
      rcases h4 with h4 | ⟨blk,q1,q2,q3⟩
      · exact .inl h4
      · exact .inr ⟨blk,fz_μ H hb hok q1,q2,fz_σ H hb hok q3⟩
    · simp [Rep]
  | .bp b' off,v,x => by
    simp only [scr]
    split
    · rename_i hok
      simp only [Rep] at x ⊢
      obtain ⟨blk,h1,h2⟩ := x
      exact ⟨blk,fz_μ H hb hok h1,h2⟩
    · simp [Rep]
  | .mp b',v,x => by
    simp only [scr]
    split
    · rename_i hok
      simp only [Rep] at x ⊢
      obtain ⟨blk,h1,h2⟩ := x
      exact ⟨blk,fz_μ H hb hok h1,h2⟩
    · simp [Rep]
  | .bt b' t n,v,x => by
    simp only [scr]
    split
    · rename_i hok
      simp only [Rep] at x ⊢
      obtain ⟨blk,h1,h2,h3⟩ := x
      exact ⟨blk,fz_μ H hb hok h1,h2,fz_σ H hb hok h3⟩
    · simp [Rep]
  | .kp xs,v,x => by
    simp only [scr,Rep] at x ⊢
    obtain ⟨blk,off,h1,h2⟩ := x
    exact ⟨blk,off,h1,scr_repK H hb k xs blk off h2⟩
  | .agg xs,v,x => by
    simp only [scr,Rep] at x ⊢
    obtain ⟨vs,h1,h2,h3⟩ := x
    exact ⟨vs,h1,scr_repL H hb k xs _ h2,h3⟩
  | .tup xs,v,x => by
    simp only [scr,Rep] at x ⊢
    obtain ⟨vs,h1,h2⟩ := x
    exact ⟨vs,h1,scr_repL H hb k xs _ h2⟩
  | .fn f xs,v,x => by
    simp only [scr,Rep] at x ⊢
    obtain ⟨vs,h1,h2⟩ := x
    exact ⟨vs,h1,scr_repL H hb k xs _ h2⟩
theorem scr_repL (H : WorldOK G h w) (hb : h.at b = some cells) (k : Nat) : ∀ (xs : List C) (vs : List Value),RepL G xs vs → RepL (fzG G w b k) (scrs (okF h b) xs) vs
  | [],vs,r => by simpa [scrs,RepL] using r
  | x :: xs,vs,r => by
    simp only [scrs,RepL] at r ⊢
    obtain ⟨v,vs',h1,h2,h3⟩ := r
    exact ⟨v,vs',h1,scr_rep H hb k x v h2,scr_repL H hb k xs vs' h3⟩
theorem scr_repK (H : WorldOK G h w) (hb : h.at b = some cells) (k : Nat) : ∀ (xs : List C) (blk off : Nat),RepK G blk off xs → RepK (fzG G w b k) blk off (scrs (okF h b) xs)
  | [],_,_,_ => by simp [scrs,RepK]
  | x :: xs,blk,off,r => by
    simp only [scrs,RepK] at r ⊢
    obtain ⟨⟨u,h1,h2,h3⟩,h4⟩ := r
    exact ⟨⟨u,(fz_le H k).K _ _ _ h1,h2,scr_rep H hb k x u h3⟩,scr_repK H hb k xs blk (off + 1) h4⟩
end
def fzY (h : Hp) (b : Nat) (cells : List C) : List C := (scrs (okF h b) cells).map C.noR
theorem fzY_len (h : Hp) (b : Nat) (cells : List C) : (fzY h b cells).length = cells.length := by simp [fzY,scrs_map]
theorem fz_row (H : WorldOK G h w) (hb : h.at b = some cells) {blk : Nat} (hm : G.μ b = some blk) : RepK (fzG G w b cells.length) blk 0 (fzY h b cells) := by
  obtain ⟨cs,e,⟨fr,q2,_⟩,q0,q3,q4⟩ := H.bx hb hm
  refine RepK.of_get fun i x hx => ?_
  have hil : i < cells.length := by have := (List.getElem?_eq_some_iff.1 hx).1; rwa [fzY_len] at this
  unfold fzY at hx
  rw [scrs_map,List.map_map,List.getElem?_map] at hx
  cases hc : cells[i]? with
  | none => rw [hc] at hx; cases hx
  | some y =>
    rw [hc] at hx
    simp only [Option.map_some,Option.some.injEq,Function.comp] at hx
    subst hx
    obtain ⟨u,hu,hr⟩ := q3.get i y hc
    rw [List.getElem?_take,if_pos hil] at hu
    refine ⟨u,?_,q4 u (List.mem_of_getElem? hu),(scr_rep H hb cells.length y u hr).noR⟩
    simp only [fzG,Nat.zero_add]
    rw [if_pos ⟨hm,hil⟩]
    exact cell_of q2 _ _ hu
mutual
theorem fzC_rep (H : WorldOK G h w) (hb : h.at b = some cells) : ∀ (c : C) (v : Value),Rep G c v → Rep (fzG G w b cells.length) (fzC (okF h b) b (fzY h b cells) c) v
  | .top,_,_ => by simp [fzC,Rep]
  | .val u,v,r => by simpa [fzC,Rep] using r
  | .sl r n xs,v,x => by
    simp only [fzC,Rep] at x ⊢
    obtain ⟨a,cap,h1,h2,h3,h4,h5⟩ := x
    refine ⟨a,cap,h1,h2,h3,h4,?_⟩
    rcases h5 with h5 | ⟨blk,off,ha,hk⟩
    · left; rw [h5]; rfl
    · exact .inr ⟨blk,off,ha,fzC_repK H hb xs blk off hk⟩
  | .sv b' off n,v,x => by
    simp only [fzC]
    split
    · rename_i e
      subst e
      split
      · rename_i hle
        simp only [Rep] at x ⊢
        obtain ⟨a,cap,h1,h2,h3,h4⟩ := x
        refine ⟨a,cap,h1,h2,h3,by simp,?_⟩
        by_cases hn : n = 0
        · left; subst hn; simp
        · right
          obtain ⟨blk,q1,q2⟩ := h4 hn
          refine ⟨blk,off,q2,?_⟩
          have := (fz_row H hb q1).drop off
          rw [Nat.zero_add] at this
          exact this.take n
      · simp [Rep]
    · split
      · rename_i hok
        simp only [Rep] at x ⊢
        obtain ⟨a,cap,h1,h2,h3,h4⟩ := x
        exact ⟨a,cap,h1,h2,h3,fun hz => by obtain ⟨blk,q1,q2⟩ := h4 hz; exact ⟨blk,fz_μ H hb hok q1,q2⟩⟩
      · simp [Rep]
  | .gv b' m s,v,x => by
    simp only [fzC]
    split
    · rename_i e
      subst e
      split
      · rename_i hle
        simp only [Rep] at x ⊢
        obtain ⟨a,cap,h1,h2,h3,h4⟩ := x
        refine ⟨a,cap,h1,h2,h3,by simp,?_⟩
        rcases h4 with ⟨rfl,_⟩ | ⟨blk,q1,q2,q3⟩
        · left; simp
        · right
          exact ⟨blk,0,q2,(fz_row H hb q1).take _⟩
      · simp [Rep]
    · split
      · rename_i hok
        simp only [Rep] at x ⊢
        obtain ⟨a,cap,h1,h2,h3,h4⟩ := x
        refine ⟨a,cap,h1,h2,h3,?_⟩
        rcases h4 with h4 | ⟨blk,q1,q2,q3⟩
        · exact .inl h4
        · exact .inr ⟨blk,fz_μ H hb hok q1,q2,fz_σ H hb hok q3⟩
      · simp [Rep]
  | .mp b',v,x => by
    simp only [fzC]
    split
    · simp [Rep]
    · split
      · rename_i hok
        simp only [Rep] at x ⊢
        obtain ⟨blk,h1,h2⟩ := x
        exact ⟨blk,fz_μ H hb hok h1,h2⟩
      · simp [Rep]
  | .bt b' t n,v,x => by
    simp only [fzC]
    split
    · simp [Rep]
    · split
      · rename_i hok
        simp only [Rep] at x ⊢
        obtain ⟨blk,h1,h2,h3⟩ := x
        exact ⟨blk,fz_μ H hb hok h1,h2,fz_σ H hb hok h3⟩
      · simp [Rep]
  | .bp b' off,v,x => by
    simp only [fzC]
    split
    · rename_i e
      subst e
      simp only [Rep] at x ⊢
      obtain ⟨blk,h1,h2⟩ := x
      refine ⟨blk,off,h2,?_⟩
      have := (fz_row H hb h1).drop off
      rwa [Nat.zero_add] at this
    · split
      · rename_i hok
        simp only [Rep] at x ⊢
        obtain ⟨blk,h1,h2⟩ := x
        exact ⟨blk,fz_μ H hb hok h1,h2⟩
      · simp [Rep]
  | .kp xs,v,x => by
    simp only [fzC,Rep] at x ⊢
    obtain ⟨blk,off,h1,h2⟩ := x
    exact ⟨blk,off,h1,fzC_repK H hb xs blk off h2⟩
  | .agg xs,v,x => by
    simp only [fzC,Rep] at x ⊢
    obtain ⟨vs,h1,h2,h3⟩ := x
    exact ⟨vs,h1,fzC_repL H hb xs _ h2,h3⟩
  | .tup xs,v,x => by
    simp only [fzC,Rep] at x ⊢
    obtain ⟨vs,h1,h2⟩ := x
    exact ⟨vs,h1,fzC_repL H hb xs _ h2⟩
  | .fn f xs,v,x => by
    simp only [fzC,Rep] at x ⊢
    obtain ⟨vs,h1,h2⟩ := x
    exact ⟨vs,h1,fzC_repL H hb xs _ h2⟩
theorem fzC_repL (H : WorldOK G h w) (hb : h.at b = some cells) : ∀ (xs : List C) (vs : List Value),RepL G xs vs → RepL (fzG G w b cells.length) (fzCs (okF h b) b (fzY h b cells) xs) vs
  | [],vs,r => by simpa [fzCs,RepL] using r
  | x :: xs,vs,r => by
    simp only [fzCs,RepL] at r ⊢
    obtain ⟨v,vs',h1,h2,h3⟩ := r
    exact ⟨v,vs',h1,fzC_rep H hb x v h2,fzC_repL H hb xs vs' h3⟩
theorem fzC_repK (H : WorldOK G h w) (hb : h.at b = some cells) : ∀ (xs : List C) (blk off : Nat),RepK G blk off xs → RepK (fzG G w b cells.length) blk off (fzCs (okF h b) b (fzY h b cells) xs)
  | [],_,_,_ => by simp [fzCs,RepK]
  | x :: xs,blk,off,r => by
    simp only [fzCs,RepK] at r ⊢
    obtain ⟨⟨u,h1,h2,h3⟩,h4⟩ := r
    exact ⟨⟨u,(fz_le H _).K _ _ _ h1,h2,fzC_rep H hb x u h3⟩,fzC_repK H hb xs blk (off + 1) h4⟩
end
theorem fzC_own {ok : Nat → Bool} {ys : List C} {c : C} {s m : Nat} {xs : List C} (hc : fzC ok b ys c = .sl (.own s) m xs) : ∃ zs,c = .sl (.own s) m zs := by
  cases c with
  | sl r k zs => simp only [fzC] at hc; cases hc; exact ⟨zs,rfl⟩
  | sv b o k => simp only [fzC] at hc; repeat' split at hc
                all_goals cases hc
  | gv b o k => simp only [fzC] at hc; repeat' split at hc
                all_goals cases hc
  | bp b o => simp only [fzC] at hc; repeat' split at hc
              all_goals cases hc
  | bt b t n => simp only [fzC] at hc; repeat' split at hc
                all_goals cases hc
  | mp b => simp only [fzC] at hc; repeat' split at hc
            all_goals cases hc
  | _ => simp only [fzC] at hc; cases hc
theorem fzC_isVal {ok : Nat → Bool} {ys : List C} {c : C} {u : Value} (h : fzC ok b ys c = .val u) : c = .val u := by
  cases c with
  | val v => simp only [fzC] at h; exact h
  | sv b o k => simp only [fzC] at h; repeat' split at h
                all_goals cases h
  | gv b o k => simp only [fzC] at h; repeat' split at h
                all_goals cases h
  | bp b o => simp only [fzC] at h; repeat' split at h
              all_goals cases h
  | bt b t n => simp only [fzC] at h; repeat' split at h
                all_goals cases h
  | mp b => simp only [fzC] at h; repeat' split at h
            all_goals cases h
  | _ => simp only [fzC] at h; cases h
theorem fzC_isTup {ok : Nat → Bool} {ys : List C} {c : C} {xs : List C} (h : fzC ok b ys c = .tup xs) : ∃ zs,c = .tup zs ∧ xs = fzCs ok b ys zs := by
  cases c with
  | tup zs => simp only [fzC] at h; cases h; exact ⟨zs,rfl,rfl⟩
  | sv b o k => simp only [fzC] at h; repeat' split at h
                all_goals cases h
  | gv b o k => simp only [fzC] at h; repeat' split at h
                all_goals cases h
  | bp b o => simp only [fzC] at h; repeat' split at h
              all_goals cases h
  | bt b t n => simp only [fzC] at h; repeat' split at h
                all_goals cases h
  | mp b => simp only [fzC] at h; repeat' split at h
            all_goals cases h
  | _ => simp only [fzC] at h; cases h
theorem fzH_mp {ok : Nat → Bool} {ys : List C} (hb : b < h.length) {j : Nat} {l : List C} (hj : Hp.mp (fzH ok b ys h) j = some l) : j ≠ b ∧ ∃ l0,h.mp j = some l0 ∧ l = fzCs ok b ys l0 := by
  unfold fzH at hj
  obtain ⟨n1,n2⟩ := mp_setN (h := h.map fun o => o.map (fzCs ok b ys)) (by simpa using hb) rfl j l hj
  refine ⟨n1,?_⟩
  unfold Hp.mp at n2
  rw [List.getElem?_map] at n2
  cases hq : h[j]? with
  | none => rw [hq] at n2; cases n2
  | some o =>
    rw [hq] at n2
    cases o with
    | none => cases n2
    | some c0 =>
      obtain ⟨l0,h1,h2⟩ := mpL_map (Fs := fzCs ok b ys) (fzCs_map ok b ys) (fun _ _ => fzC_isVal) (fun _ _ => fzC_isTup) (cells := c0) n2
      exact ⟨l0,by unfold Hp.mp; rw [hq]; exact h1,h2⟩
theorem fzC_mrep (H : WorldOK G h w) (hb : h.at b = some cells) : ∀ (l : List C) (es : List MapEntry),MRep G l es → MRep (fzG G w b cells.length) (fzCs (okF h b) b (fzY h b cells) l) es
  | [],_,r => by simpa [MRep,fzCs] using r
  | [_],_,r => by simp [MRep] at r
  | k :: v :: l,es,r => by
    simp only [MRep,fzCs] at r ⊢
    obtain ⟨e,es',h1,h2,h3,h4⟩ := r
    exact ⟨e,es',h1,fzC_rep H hb k _ h2,fzC_rep H hb v _ h3,fzC_mrep H hb l es' h4⟩
theorem fzH_at {ok : Nat → Bool} {ys : List C} (hb : h.at b = some cells) {j : Nat} {c' : List C} (hj : Hp.at (fzH ok b ys h) j = some c') : j ≠ b ∧ ∃ c0,h.at j = some c0 ∧ c' = fzCs ok b ys c0 := by
  have hlen := Hp.at_lt hb
  unfold fzH at hj
  rw [Hp.at_set (by simpa using hlen)] at hj
  split at hj
  · cases hj
  · rename_i hne
    refine ⟨hne,?_⟩
    have h1 := Hp.at_some hj
    rw [List.getElem?_map] at h1
    cases hq : h[j]? with
    | none => rw [hq] at h1; cases h1
    | some o =>
      rw [hq] at h1
      cases o with
      | none => cases h1
      | some c0 =>
        simp only [Option.map_some,Option.some.injEq] at h1
        refine ⟨c0,?_,h1.symm⟩
        have hl := Hp.at_live hj
        unfold Hp.at
        rw [hq]
        subst h1
        show liveC (some c0) = _
        cases c0 with
        | nil => rfl
        | cons x l =>
          cases x with
          | tup xs => simp only [fzCs,fzC] at hl; cases hl
          | _ => rfl
theorem OwnRow.fz {k : Nat} {p : Place} {v : Value} {s m : Nat} (O : OwnRow G w p v s m) : OwnRow (fzG G w b k) w p v s m := by
  rcases O with O | ⟨g,cap,cur,e,a1,a2,a3,a4,a5,a6⟩
  · exact .inl O
  · refine .inr ⟨g,cap,cur,e,a1,a2,a3,a4,fun o ho => ?_,fun b' hb' => ?_⟩
    · simp only [fzG]
      rw [if_neg (fun x => a6 b x.1)]
      exact a5 o ho
    · simp only [fzG] at hb'
      split at hb'
      · cases hb'
      · exact a6 b' hb'
theorem WorldOK.fz (H : WorldOK G h w) (hb : h.at b = some cells) : WorldOK (fzG G w b cells.length) (fzH (okF h b) b (fzY h b cells) h) w := by
  have hlen := Hp.at_lt hb
  have hμ : ∀ {j blk},(fzG G w b cells.length).μ j = some blk → G.μ j = some blk ∧ j ≠ b ∧ G.μ b ≠ some blk := fun {j blk} x => by
    simp only [fzG] at x
    split at x
    · cases x
    · rename_i hne
      refine ⟨x,fun e => hne (.inl e),fun e => hne (.inr ⟨blk,e,x⟩)⟩
  refine ⟨fun blk off u hk => ?_,fun j c' hj => ?_,fun j blk hm => ?_,fun j j' c c' blk hj hj' hm hm' => ?_,fun j blk hm => ?_,H.tlt,fun j c' off s m xs blk v hj hc hm hv => ?_,fun j z hz => ?_,fun j l hj => ?_,fun j j' l l' blk x x' y y' => ?_⟩
  · simp only [fzG] at hk
    split at hk
    · exact hk
    · exact H.known blk off u hk
  · obtain ⟨hne,c0,h2,rfl⟩ := fzH_at hb hj
    have hok : okF h b j = true := by simp [okF,h2,hne]
    rcases H.box j c0 h2 with ⟨hE,hE2⟩ | ⟨blk,cs,e,q1,q2,q3,q4,q5⟩
    · refine .inl ⟨by rw [hE]; rfl,?_⟩
      simp only [fzG]
      split
      · rfl
      · exact hE2
    · have hl : (fzCs (okF h b) b (fzY h b cells) c0).length = c0.length := by rw [fzCs_map]; simp
      exact .inr ⟨blk,cs,e,fz_μ H hb hok q1,q2,by rw [hl]; exact q3,by rw [hl]; exact fzC_repL H hb _ _ q4,q5⟩
  · obtain ⟨h1,h2,h3⟩ := hμ hm
    obtain ⟨⟨c,hc⟩,hl⟩ := H.dom j blk h1
    refine ⟨⟨fzCs (okF h b) b (fzY h b cells) c,?_⟩,hl⟩
    unfold fzH
    rw [List.getElem?_set,if_neg (Ne.symm h2),List.getElem?_map,hc]; rfl
  · obtain ⟨h1,_,_⟩ := hμ hm
    obtain ⟨h1',_,_⟩ := hμ hm'
    obtain ⟨_,c0,g2,_⟩ := fzH_at hb hj
    obtain ⟨_,c0',g2',_⟩ := fzH_at hb hj'
    exact H.inj j j' _ _ blk g2 g2' h1 h1'
  · obtain ⟨h1,h2,h3⟩ := hμ hm
    obtain ⟨s1,s2⟩ := H.sep j blk h1
    refine ⟨fun o => ?_,s2⟩
    simp only [fzG]
    rw [if_neg (fun x => h3 x.1)]
    exact s1 o
  · obtain ⟨h1,_,_⟩ := hμ hm
    obtain ⟨_,c0,g2,rfl⟩ := fzH_at hb hj
    rw [fzCs_map,List.getElem?_map] at hc
    cases hq : c0[off]? with
    | none => rw [hq] at hc; cases hc
    | some y =>
      rw [hq] at hc
      simp only [Option.map_some,Option.some.injEq] at hc
      obtain ⟨zs,rfl⟩ := fzC_own hc
      exact (H.own j c0 off s m zs blk v g2 hq h1 hv).fz
  · simp only [fzG] at hz ⊢
    split at hz
    · cases hz
    · rename_i hne
      obtain ⟨blk,cs,e,fr,q1,q2,q3⟩ := H.siz j z hz
      exact ⟨blk,cs,e,fr,by rw [if_neg hne]; exact q1,q2,q3⟩
  · obtain ⟨n1,l0,n2,rfl⟩ := fzH_mp hlen hj
    obtain ⟨blk,es,clk,q1,q2,q3⟩ := H.mpo j l0 n2
    have hok : okF h b j = true := by simp [okF,n2,n1]
    exact ⟨blk,es,clk,fz_μ H hb hok q1,q2,fzC_mrep H hb l0 _ q3⟩
  · obtain ⟨n1,l0,n2,rfl⟩ := fzH_mp hlen x
    obtain ⟨n1',l0',n2',rfl⟩ := fzH_mp hlen x'
    exact H.mpi j j' _ _ blk n2 n2' (hμ y).1 (hμ y').1
theorem frmN_fz (H : WorldOK G h w) (hb : h.at b = some cells) (hnb : n ≤ b) (hn : ∀ j,j < n → ((h.at j).isSome || (h.mp j).isSome) = true ∨ h[j]? = some none) (k : Nat) : FrmN n G w (fzG G w b k) w := by
  have keep : ∀ j,j < n → ∀ blk,G.μ j = some blk → okF h b j = true := fun j hj blk hm => by
    rcases hn j hj with h1 | h1
    · simp [okF,h1]; omega
    · obtain ⟨⟨c,hc⟩,_⟩ := H.dom j blk hm
      rw [h1] at hc; cases hc
  refine ⟨rfl,rfl,rfl,Nat.le_refl _,fun g o u x => (fz_le H k).K g o u x,fun j blk hj x => fz_μ H hb (keep j hj blk x) x,fun j z hj x => ?_,fun g _ ht hm => ⟨rfl,ht,fun j hj => ?_,fun o => ?_⟩⟩
  · obtain ⟨blk,_,_,_,q1,_⟩ := H.siz j z x
    exact fz_σ H hb (keep j hj blk q1) x
  · simp only [fzG] at hj
    split at hj
    · cases hj
    · exact hm j hj
  · simp only [fzG]
    rw [if_neg (fun x => hm b x.1)]
theorem Tr.fz (hcx : CxOK cx) {c : Code} (b : Nat) {cells : List C} (hb : st.h.at b = some cells) (hnb : n ≤ b) (hn : ∀ j,j < n → ((st.h.at j).isSome || (st.h.mp j).isSome) = true ∨ st.h[j]? = some none)
    (K : Tr cx n c ⟨fun t => fzC (okF st.h b) b (fzY st.h b cells) (st.env t),fzH (okF st.h b) b (fzY st.h b cells) st.h⟩ Q) : Tr cx n c st Q := fun r hr G w a S R hR =>
  K r hr (fzG G w b cells.length) w a ⟨S.defers.same (fun _ h => h) (fun g h b' hb' => by
      simp only [fzG] at hb'
      split at hb'
      · cases hb'
      · exact h b' hb'),S.size,S.pre.ok.fz hb,⟨fun t => fzC_rep S.pre.ok hb _ _ (S.pre.env.1 t),fun t s m xs e => by
      obtain ⟨ys,hy⟩ := fzC_own e
      exact (S.pre.env.2 t s m ys hy).fz⟩,fun g => (noRef_rep _ _ (hcx.glo g) (S.pre.glob g)).mono (fz_le S.pre.ok _)⟩ R
    fun x s G' w' a' q S' F => hR x s G' w' a' q S' ((frmN_fz S.pre.ok hb hnb hn _).transA F)
end
end Go.Sx
