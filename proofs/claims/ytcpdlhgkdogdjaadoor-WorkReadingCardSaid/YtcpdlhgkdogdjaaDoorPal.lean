/-
   And what follows.
-/
import Derived.Test.YtcpdlhgkdogdjaaDoorPak
set_option linter.unusedSimpArgs false
set_option linter.unusedVariables false
namespace Go.Sx
open Go.RowKit
section
variable {cx : Cx} {n : Nat} {Q : Ex → St → Prop} {e : List (Nat × C)} {h : Hp} {b : Code} {id : Nat} {l : List Oper} {s : St}
theorem Tr.w (hcx : CxOK cx) (apps : List Nat) (dsts : List (Option Nat)) (z : Hp) (h1 : l.filterMap appOf = apps) (h2 : l.map (·.dst) = dsts) (h3 : nones l = z) (H : Tr cx n b s Q) (E : ∀ K : St → Prop,K s → run cx apps dsts l h.length e (h ++ z) [] (fun _ s => K s)) : Tr cx n (.seq (.region id l.toArray false) b) ⟨A e,h⟩ Q :=
  Tr.seqK fun K hK => Tr.rg hcx apps dsts z h1 h2 h3 (E K (hK s H))
theorem Tr.v (hcx : CxOK cx) (apps : List Nat) (dsts : List (Option Nat)) (z : Hp) (h1 : l.filterMap appOf = apps) (h2 : l.map (·.dst) = dsts) (h3 : nones l = z) (H : Q .normal s) (E : ∀ K : St → Prop,K s → run cx apps dsts l h.length e (h ++ z) [] (fun _ s => K s)) : Tr cx n (.region id l.toArray false) ⟨A e,h⟩ Q :=
  Tr.rg hcx apps dsts z h1 h2 h3 (E (Q .normal) H)
theorem Tr.wD (hcx : CxOK cx) (hm : cx.P.follows .mixedOrders = true) (apps : List Nat) (dsts : List (Option Nat)) (z : Hp) (h1 : l.filterMap appOf = apps) (h2 : l.map (·.dst) = dsts) (h3 : nones l = z) (hs : regStatic l.toArray = true) (H : Tr cx n b s Q) (E : ∀ K : St → Prop,K s → run cx apps dsts l h.length e (h ++ z) [] (fun fs s => confsOK l.toArray fs.reverse = true ∧ K s)) : Tr cx n (.seq (.region id l.toArray true) b) ⟨A e,h⟩ Q :=
  Tr.seqK fun K hK => Tr.rgD hcx hm apps dsts z h1 h2 h3 hs (E K (hK s H))
theorem Tr.vD (hcx : CxOK cx) (hm : cx.P.follows .mixedOrders = true) (apps : List Nat) (dsts : List (Option Nat)) (z : Hp) (h1 : l.filterMap appOf = apps) (h2 : l.map (·.dst) = dsts) (h3 : nones l = z) (hs : regStatic l.toArray = true) (H : Q .normal s) (E : ∀ K : St → Prop,K s → run cx apps dsts l h.length e (h ++ z) [] (fun fs s => confsOK l.toArray fs.reverse = true ∧ K s)) : Tr cx n (.region id l.toArray true) ⟨A e,h⟩ Q :=
  Tr.rgD hcx hm apps dsts z h1 h2 h3 hs (E (Q .normal) H)
theorem Tr.wG (hcx : CxOK cx) (gs : List Nat) (apps : List Nat) (dsts : List (Option Nat)) (z : Hp) (h1 : l.filterMap appOf = apps) (h2 : l.map (·.dst) = dsts) (h3 : nones l = z) (H : Tr cx n b s Q) (E : ∀ K : St → Prop,K s → run (cx.grow gs) apps dsts l h.length e (h ++ z) [] (fun _ s => K s)) : Tr cx n (.seq (.region id l.toArray false) b) ⟨A e,h⟩ Q :=
  Tr.seqK fun K hK => Tr.rgG hcx gs apps dsts z h1 h2 h3 (E K (hK s H))
theorem Tr.k (ks : List Nat) {c : Code} {e' : List (Nat × C)} (H : Tr cx n c ⟨A e',h⟩ Q) (E : ∀ R : List (Nat × C) → Prop,R e' → R (pk e ks) := by intro RZ hZ; simp only [pk_cons,pk_nil,↓A_cons,↓reduceIte,Nat.reduceEqDiff,reduceCtorEq]; exact hZ) : Tr cx n c ⟨A e,h⟩ Q :=
  Tr.kp ks (E (fun x => Tr cx n c ⟨A x,h⟩ Q) H)
end
theorem LT {p : Prop} (h : p := by (simp only [Le_nil,Le_cons,↓A_cons,↓reduceIte,Nat.reduceEqDiff,CLe_refl,CLe_top,CLe_full,CLe_nil,CLe_own,and_true,true_and]; all_goals (repeat' first | exact CLe.refl _ | exact True.intro | (refine CLe_sln ?_; first | rfl | (simp only [List.take_zero]; done)) | exact CLe_nI (by omega) | exact CLe_int (by omega) | exact CLe_inI (by omega) | exact CLe_nIi (by omega) | with_reducible apply And.intro))) : p := h
theorem O1 {p : Prop} (h : p := by first | omega | (simp only []; omega)) : p := h
end Go.Sx
namespace Go.Sx
open Go.RowKit
section
variable (a1 b1 : Nat) (z1 : List Value)
theorem ldK_map (k e : TypeId) (xs : List C) : ldK (some ⟨.map k e,a1,b1,z1⟩) xs = (rdc xs 0).map vp := rfl
end
section
variable (cx : Cx) (apps : List Nat) (dsts : List (Option Nat)) (l : List Oper) (id id' : Nat) (d : Option Nat) (e : List (Nat × C)) (h : Hp) (fs : List FP) (K : List FP → St → Prop) (ty : TypeId) (pos : String) (aft : Array Edge)
theorem run_mkm (t : TypeId) : run cx apps dsts (⟨d,.makeMap t none,ty,pos,aft,none⟩ :: l) id e h fs K = AN (dOK cx.N d) (stV cx apps dsts l id id d e h fs K (mnewPlan cx.P t)) :=
  run_gen cx apps dsts l id id d e h fs K ty pos aft (.makeMap t none) (mnewPlan cx.P t) (by first | rfl | (cases d <;> rfl)) rfl
theorem run_look (t : TypeId) (x y : Operand) (ok : Bool) : run cx apps dsts (⟨d,.lookup t x y ok,ty,pos,aft,none⟩ :: l) id e h fs K = AN (dOK cx.N d) (stV cx apps dsts l id id d e h fs K (mlookPlan cx t (on cx e x) (on cx e y) ok)) :=
  run_gen cx apps dsts l id id d e h fs K ty pos aft (.lookup t x y ok) (mlookPlan cx t (on cx e x) (on cx e y) ok) (by first | rfl | (cases d <;> rfl)) rfl
theorem run_mput (t : TypeId) (m k x : Operand) : run cx apps dsts (⟨d,.mapUpdate t m k x,ty,pos,aft,none⟩ :: l) id e h fs K = AN (dOK cx.N d) (stV cx apps dsts l id id d e h fs K (mputPlan cx t (on cx e m) (on cx e k) (on cx e x))) :=
  run_gen cx apps dsts l id id d e h fs K ty pos aft (.mapUpdate t m k x) (mputPlan cx t (on cx e m) (on cx e k) (on cx e x)) (by first | rfl | (cases d <;> rfl)) rfl
theorem run_mdel (t t2 : TypeId) (m k : Operand) : run cx apps dsts (⟨d,.call ⟨.builtin .delete,#[m,k],#[t,t2]⟩,ty,pos,aft,none⟩ :: l) id e h fs K = AN (dOK cx.N d) (stV cx apps dsts l id id d e h fs K (mdelPlan cx t (on cx e m) (on cx e k))) :=
  run_gen cx apps dsts l id id d e h fs K ty pos aft (.call ⟨.builtin .delete,#[m,k],#[t,t2]⟩) (mdelPlan cx t (on cx e m) (on cx e k)) (by first | rfl | (cases d <;> rfl)) rfl
theorem stV_mo (f : Hp → Option (C × Hp)) : stV cx apps dsts l id id' d e h fs K (some (.mo f)) = stC cx apps dsts l id' d e fs K (f h) := by
  unfold stV stC act1D
  simp only [actH]
  cases f h with
  | none => rfl
  | some c => simp only [Option.map_some,killS_none,A_mkE]; rfl
theorem stC_mnew : stC cx apps dsts l id' d e fs K (mnewF h) = run cx apps dsts l id' (mkE d (.mp h.length) e) (h ++ [some (mapC [])]) ((4,0) :: fs) K := rfl
end
theorem mnew_eq {P : Program} {t kt et : TypeId} (hk : mapKT P t = some (kt,et)) : mnewPlan P t = some (.mo mnewF) := by unfold mnewPlan; rw [hk]; rfl
theorem mlook_eq (cx : Cx) (t : TypeId) (b : Nat) (k : C) (u : Value) (ok : Bool) (hq : valQ k = some u) : mlookPlan cx t (.mp b) k ok = some (.mo (mlookF cx t b u ok)) := by unfold mlookPlan; rw [hq]
theorem mput_eq (cx : Cx) (t : TypeId) (b : Nat) (k x : C) (u : Value) (hq : valQ k = some u) : mputPlan cx t (.mp b) k x = some (.mo (mputF cx t b u x)) := by unfold mputPlan; rw [hq]
theorem mdel_eq (cx : Cx) (t : TypeId) (b : Nat) (k : C) (u : Value) (hq : valQ k = some u) : mdelPlan cx t (.mp b) k = some (.mo (mdelF cx t b u)) := by unfold mdelPlan; rw [hq]
theorem mp_cons0 (o : Option (List C)) (h : Hp) : Hp.mp (o :: h) 0 = mpL o := rfl
theorem mp_consS (o : Option (List C)) (h : Hp) (n : Nat) : Hp.mp (o :: h) (n + 1) = Hp.mp h n := rfl
attribute [go_sem] ldK_map run_mkm run_look run_mput run_mdel stV_mo stC_mnew mp_cons0 mp_consS
end Go.Sx
namespace Go.Sx
open Go.RowKit
end Go.Sx
namespace Go.Sx
open Go.RowKit
def mvBt (t n : Nat) : Option Nat → C
  | some j => .bt j t n
  | none => .top
theorem mvC_bt (ρ : List Nat) (b t n : Nat) : mvC ρ (.bt b t n) = mvBt t n (loc ρ 0 b) := by simp only [mvC]; cases loc ρ 0 b <;> rfl
theorem mvBt_some (t n j : Nat) : mvBt t n (some j) = .bt j t n := rfl
theorem mvBt_none (t n : Nat) : mvBt t n none = .top := rfl
def mvMp : Option Nat → C
  | some j => .mp j
  | none => .top
theorem mvC_mp (ρ : List Nat) (b : Nat) : mvC ρ (.mp b) = mvMp (loc ρ 0 b) := by simp only [mvC]; cases loc ρ 0 b <;> rfl
theorem mvMp_some (j : Nat) : mvMp (some j) = .mp j := rfl
theorem mvMp_none : mvMp none = .top := rfl
section
variable (cx : Cx) (apps : List Nat) (dsts : List (Option Nat)) (l : List Oper) (id' : Nat) (d : Option Nat) (e : List (Nat × C)) (h : Hp) (fs : List FP) (K : List FP → St → Prop)
def stXo (b off : Nat) (cells : List C) (o : Option C) : Prop := match o with
  | none => False
  | some x => run cx apps dsts l id' (mkE d x e) (h.set b (some (cells.set off x.noR))) ((3,b) :: fs) K
theorem stX_cells (b off : Nat) (cells : List C) : stX cx apps dsts l id' d e h fs K b off (some cells) = stXo cx apps dsts l id' d e h fs K b off cells (cells[off]?) := rfl
theorem stXo_some (b off : Nat) (cells : List C) (x : C) : stXo cx apps dsts l id' d e h fs K b off cells (some x) = run cx apps dsts l id' (mkE d x e) (h.set b (some (cells.set off x.noR))) ((3,b) :: fs) K := rfl
end
@[congr] theorem stXo_congr {cx : Cx} {apps : List Nat} {dsts : List (Option Nat)} {l : List Oper} {id' : Nat} {d : Option Nat} {e : List (Nat × C)} {h : Hp} {fs : List FP} {K : List FP → St → Prop} {b off : Nat} {cells : List C} {p p' : Option C} (hp : p = p') :
    stXo cx apps dsts l id' d e h fs K b off cells p = stXo cx apps dsts l id' d e h fs K b off cells p' := by rw [hp]
attribute [go_sem] stX_cells stXo_some
theorem live_mp (b : Nat) (r : List C) : liveC (some (.mp b :: r)) = some (.mp b :: r) := rfl
theorem noR_mp (b : Nat) : (C.mp b).noR = .mp b := rfl
attribute [go_sem] noR_mp
attribute [go_sem] live_mp
end Go.Sx
namespace Go.Sx
open Go.RowKit
mutual
def bkC (r : Nat → Nat) : C → C
  | .sv b o n => .sv (r b) o n
  | .gv b n s => .gv (r b) n s
  | .bp b o => .bp (r b) o
  | .mp b => .mp (r b)
  | .bt b t n => .bt (r b) t n
  | .sl q n xs => .sl q n (bkCs r xs)
  | .kp xs => .kp (bkCs r xs)
  | .agg xs => .agg (bkCs r xs)
  | .tup xs => .tup (bkCs r xs)
  | .fn f xs => .fn f (bkCs r xs)
  | .top => .top
  | .val v => .val v
def bkCs (r : Nat → Nat) : List C → List C
  | [] => []
  | x :: xs => bkC r x :: bkCs r xs
end
theorem bkCs_map (r : Nat → Nat) : ∀ xs : List C,bkCs r xs = xs.map (bkC r)
  | [] => rfl
  | x :: xs => by simp [bkCs,bkCs_map r xs]
structure BkG (r : Nat → Nat) (A B : Gh) : Prop where
  K : ∀ b o u,A.K b o = some u → B.K b o = some u
  μ : ∀ i k,A.μ i = some k → B.μ (r i) = some k
  σ : ∀ i z,A.σ i = some z → B.σ (r i) = some z
mutual
theorem bkC_rep {r : Nat → Nat} {A B : Gh} (h : BkG r A B) : ∀ (c : C) (v : Value),Rep A c v → Rep B (bkC r c) v
  | .top,_,_ => by simp [bkC,Rep]
  | .val u,v,q => by simpa [bkC,Rep] using q
  | .sl q n xs,v,x => by
    simp only [bkC,Rep] at x ⊢
    obtain ⟨a,cap,h1,h2,h3,h4,h5⟩ := x
    refine ⟨a,cap,h1,h2,h3,h4,?_⟩
    rcases h5 with h5 | ⟨blk,off,ha,hk⟩
    · left; rw [h5]; rfl
    · exact .inr ⟨blk,off,ha,bkC_repK h xs blk off hk⟩
  | .sv b off n,v,x => by
    simp only [bkC,Rep] at x ⊢
    obtain ⟨a,cap,h1,h2,h3,h4⟩ := x
    exact ⟨a,cap,h1,h2,h3,fun hz => by obtain ⟨blk,q1,q2⟩ := h4 hz; exact ⟨blk,h.μ _ _ q1,q2⟩⟩
  | .gv b m s,v,x => by
    simp only [bkC,Rep] at x ⊢
    obtain ⟨a,cap,h1,h2,h3,h4⟩ := x
    refine ⟨a,cap,h1,h2,h3,?_⟩
    rcases h4 with h4 | ⟨blk,q1,q2,q3⟩
    · exact .inl h4
    · exact .inr ⟨blk,h.μ _ _ q1,q2,h.σ _ _ q3⟩
  | .bp b off,v,x => by
    simp only [bkC,Rep] at x ⊢
    obtain ⟨blk,h1,h2⟩ := x
    exact ⟨blk,h.μ _ _ h1,h2⟩
  | .mp b,v,x => by
    simp only [bkC,Rep] at x ⊢
    obtain ⟨blk,h1,h2⟩ := x
    exact ⟨blk,h.μ _ _ h1,h2⟩
  | .bt b t n,v,x => by
    simp only [bkC,Rep] at x ⊢
    obtain ⟨blk,h1,h2,h3⟩ := x
    exact ⟨blk,h.μ _ _ h1,h2,h.σ _ _ h3⟩
  | .kp xs,v,x => by
    simp only [bkC,Rep] at x ⊢
    obtain ⟨blk,off,h1,h2⟩ := x
    exact ⟨blk,off,h1,bkC_repK h xs blk off h2⟩
  | .agg xs,v,x => by
    simp only [bkC,Rep] at x ⊢
    obtain ⟨vs,h1,h2,h3⟩ := x
    exact ⟨vs,h1,bkC_repL h xs _ h2,h3⟩
  | .tup xs,v,x => by
    simp only [bkC,Rep] at x ⊢
    obtain ⟨vs,h1,h2⟩ := x
    exact ⟨vs,h1,bkC_repL h xs _ h2⟩
  | .fn f xs,v,x => by
    simp only [bkC,Rep] at x ⊢
    obtain ⟨vs,h1,h2⟩ := x
    exact ⟨vs,h1,bkC_repL h xs _ h2⟩
theorem bkC_repL {r : Nat → Nat} {A B : Gh} (h : BkG r A B) : ∀ (xs : List C) (vs : List Value),RepL A xs vs → RepL B (bkCs r xs) vs
  | [],vs,q => by simpa [bkCs,RepL] using q
  | x :: xs,vs,q => by
    simp only [bkCs,RepL] at q ⊢
    obtain ⟨v,vs',h1,h2,h3⟩ := q
    exact ⟨v,vs',h1,bkC_rep h x v h2,bkC_repL h xs vs' h3⟩
theorem bkC_repK {r : Nat → Nat} {A B : Gh} (h : BkG r A B) : ∀ (xs : List C) (blk off : Nat),RepK A blk off xs → RepK B blk off (bkCs r xs)
  | [],_,_,_ => by simp [bkCs,RepK]
  | x :: xs,blk,off,q => by
    simp only [bkCs,RepK] at q ⊢
    obtain ⟨⟨u,h1,h2,h3⟩,h4⟩ := q
    exact ⟨⟨u,h.K _ _ _ h1,h2,bkC_rep h x u h3⟩,bkC_repK h xs blk (off + 1) h4⟩
end
theorem bkC_mrep {r : Nat → Nat} {A B : Gh} (h : BkG r A B) : ∀ (l : List C) (es : List MapEntry),MRep A l es → MRep B (bkCs r l) es
  | [],_,q => by simpa [MRep,bkCs] using q
  | [_],_,q => by simp [MRep] at q
  | k :: v :: l,es,q => by
    simp only [MRep,bkCs] at q ⊢
    obtain ⟨e,es',h1,h2,h3,h4⟩ := q
    exact ⟨e,es',h1,bkC_rep h k _ h2,bkC_rep h v _ h3,bkC_mrep h l es' h4⟩
theorem bkC_own {r : Nat → Nat} {c : C} {s m : Nat} {xs : List C} (h : bkC r c = .sl (.own s) m xs) : ∃ ys,c = .sl (.own s) m ys := by
  cases c <;> simp only [bkC] at h <;> cases h
  exact ⟨_,rfl⟩
theorem bkC_isVal {r : Nat → Nat} {c : C} {u : Value} (h : bkC r c = .val u) : c = .val u := by
  cases c <;> simp only [bkC] at h <;> cases h
  rfl
theorem bkC_isTup {r : Nat → Nat} {c : C} {xs : List C} (h : bkC r c = .tup xs) : ∃ ys,c = .tup ys ∧ xs = bkCs r ys := by
  cases c <;> simp only [bkC] at h <;> cases h
  exact ⟨_,rfl,rfl⟩
theorem bk_live {r : Nat → Nat} {o : Option (List C)} {cells : List C} (h : liveC (o.map (bkCs r)) = some cells) : ∃ c0,liveC o = some c0 ∧ cells = bkCs r c0 := by
  have h1 := liveC_some h
  cases o with
  | none => cases h1
  | some c0 =>
    simp only [Option.map_some,Option.some.injEq] at h1
    refine ⟨c0,?_,h1.symm⟩
    subst h1
    cases c0 with
    | nil => rfl
    | cons x l =>
      cases x with
      | tup xs => simp only [Option.map_some,bkCs,bkC] at h; cases h
      | _ => rfl
theorem bk_mpL {r : Nat → Nat} {o : Option (List C)} {l : List C} (h : mpL (o.map (bkCs r)) = some l) : ∃ l0,mpL o = some l0 ∧ l = bkCs r l0 := by
  cases o with
  | none => cases h
  | some c0 => exact mpL_map (Fs := bkCs r) (bkCs_map r) (fun _ _ => bkC_isVal) (fun _ _ => bkC_isTup) h
def bkR (ρ : List Nat) (L : Nat) (i : Nat) : Nat := match ρ[i]? with
  | some b => b
  | none => L + (i - ρ.length)
def bkS (ρ : List Nat) (L : Nat) (b : Nat) : Option Nat := if b < L then loc ρ 0 b else some (ρ.length + (b - L))
def bkH (ρ : List Nat) (H h' : Hp) : Hp :=
  ((List.range H.length).map fun b => match loc ρ 0 b with
    | some i => ((h'[i]?).getD none).map (bkCs (bkR ρ H.length))
    | none => (H[b]?).getD none) ++ (h'.drop ρ.length).map (Option.map (bkCs (bkR ρ H.length)))
section
variable {ρ : List Nat} {H h' : Hp}
theorem bkS_R (hn : ρ.Nodup) (hl : ∀ b ∈ ρ,b < H.length) (i : Nat) : bkS ρ H.length (bkR ρ H.length i) = some i := by
  unfold bkS bkR
  cases hi : ρ[i]? with
  | some b =>
    simp only []
    rw [if_pos (hl b (List.mem_of_getElem? hi)),loc_of hn hi,Nat.zero_add]
  | none =>
    simp only []
    have : ρ.length ≤ i := List.getElem?_eq_none_iff.1 hi
    rw [if_neg (by omega)]
    congr 1; omega
theorem bkR_S {b i : Nat} (h : bkS ρ H.length b = some i) : bkR ρ H.length i = b := by
  unfold bkS at h
  unfold bkR
  split at h
  · have := (loc_some h).2
    rw [Nat.sub_zero] at this
    rw [this]
  · cases h
    rw [List.getElem?_eq_none (by omega)]
    simp only []
    omega
theorem bkH_get (b : Nat) : (bkH ρ H h')[b]? = match bkS ρ H.length b with
    | some i => if b < H.length then some (((h'[i]?).getD none).map (bkCs (bkR ρ H.length))) else (h'[i]?).map (Option.map (bkCs (bkR ρ H.length)))
    | none => H[b]? := by
  unfold bkH bkS
  by_cases hb : b < H.length
  · rw [List.getElem?_append_left (by simpa using hb),List.getElem?_map,List.getElem?_range hb,if_pos hb]
    simp only [Option.map_some]
    cases hl : loc ρ 0 b with
    | some i => simp only [hb,if_true]
    | none => simp only []; rw [List.getElem?_eq_getElem hb]; rfl
  · rw [List.getElem?_append_right (by simp; omega),if_neg hb]
    simp only [List.length_map,List.length_range,List.getElem?_map,List.getElem?_drop,hb,if_false]
theorem bkH_at {b : Nat} {cells : List C} (h : (bkH ρ H h').at b = some cells) : (∃ i c0,bkS ρ H.length b = some i ∧ h'.at i = some c0 ∧ cells = bkCs (bkR ρ H.length) c0) ∨ (bkS ρ H.length b = none ∧ H.at b = some cells) := by
  unfold Hp.at at h
  rw [bkH_get] at h
  cases hs : bkS ρ H.length b with
  | none => rw [hs] at h; exact .inr ⟨rfl,h⟩
  | some i =>
    rw [hs] at h
    left
    have : ∃ o,h'[i]? = some o ∧ liveC (o.map (bkCs (bkR ρ H.length))) = some cells := by
      simp only [] at h
      split at h
      · cases hq : h'[i]? with
        | none => rw [hq] at h; cases h
        | some o => rw [hq] at h; exact ⟨o,rfl,h⟩
      · cases hq : h'[i]? with
        | none => rw [hq] at h; cases h
        | some o => rw [hq] at h; exact ⟨o,rfl,h⟩
    obtain ⟨o,h1,h2⟩ := this
    obtain ⟨c0,h3,h4⟩ := bk_live h2
    exact ⟨i,c0,rfl,by unfold Hp.at; rw [h1]; exact h3,h4⟩
theorem bkH_mp {b : Nat} {l : List C} (h : (bkH ρ H h').mp b = some l) : (∃ i l0,bkS ρ H.length b = some i ∧ h'.mp i = some l0 ∧ l = bkCs (bkR ρ H.length) l0) ∨ (bkS ρ H.length b = none ∧ H.mp b = some l) := by
  unfold Hp.mp at h
  rw [bkH_get] at h
  cases hs : bkS ρ H.length b with
  | none => rw [hs] at h; exact .inr ⟨rfl,h⟩
  | some i =>
    rw [hs] at h
    left
    have : ∃ o,h'[i]? = some o ∧ mpL (o.map (bkCs (bkR ρ H.length))) = some l := by
      simp only [] at h
      split at h
      · cases hq : h'[i]? with
        | none => rw [hq] at h; cases h
        | some o => rw [hq] at h; exact ⟨o,rfl,h⟩
      · cases hq : h'[i]? with
        | none => rw [hq] at h; cases h
        | some o => rw [hq] at h; exact ⟨o,rfl,h⟩
    obtain ⟨o,h1,h2⟩ := this
    obtain ⟨c0,h3,h4⟩ := bk_mpL h2
    exact ⟨i,c0,rfl,by unfold Hp.mp; rw [h1]; exact h3,h4⟩
theorem bkH_some {b i : Nat} {c0 : List C} (hs : bkS ρ H.length b = some i) (h : h'[i]? = some (some c0)) : (bkH ρ H h')[b]? = some (some (bkCs (bkR ρ H.length) c0)) := by
  rw [bkH_get,hs]
  simp only [h]
  split <;> rfl
end
open Classical in
noncomputable def bkG (ρ : List Nat) (L z : Nat) (G G2 : Gh) : Gh where
  K := G2.K
  μ := fun b => match bkS ρ L b with
    | some i => G2.μ i
    | none => G.μ b
  T := fun g => match G2.T g with
    | some p => some (if p.1 = 1 then (1,bkR ρ L p.2.1,p.2.2) else p)
    | none => if g < z ∧ (mvG ρ G).T g = none then G.T g else none
  σ := fun b => match bkS ρ L b with
    | some i => G2.σ i
    | none => G.σ b
theorem FC.frameH {P : Program} {gl : Nat → C} {f : Nat} {args : List C} {c : C} {H h' : Hp} (ρ : List Nat) (hn : ρ.Nodup) (hlive : ∀ b ∈ ρ,(H.at b).isSome = true ∨ (H.mp b).isSome = true)
    (hD : ∀ b,b < H.length → b ∉ ρ → (H.at b).isSome = true ∨ (H.mp b).isSome = true ∨ H[b]? = some none)
    (hf : FC P gl f (mvCs ρ args) (mvH ρ H) c h') (hg : ∀ g,noRef 0 (gl g) = true) :
    FC P gl f args H (bkC (bkR ρ H.length) c) (bkH ρ H h') := by
  obtain ⟨he,hf⟩ := hf
  refine ⟨he,fun G w vs W hTg hgl hr => ?_⟩
  have hl : ∀ b ∈ ρ,b < H.length := fun b hb => by
    rcases hlive b hb with h | h
    · obtain ⟨x,hx⟩ := Option.isSome_iff_exists.1 h; exact Hp.at_lt hx
    · obtain ⟨x,hx⟩ := Option.isSome_iff_exists.1 h; exact Hp.mp_lt hx
  have W1 : WorldOK (mvG ρ G) (mvH ρ H) w := W.mv hn
  have hT1 : ∀ g,G.T g = none → (mvG ρ G).T g = none := fun g h => by simp only [mvG,h]
  have hT1b : ∀ g b o,G.T g = some (1,b,o) → b ∉ ρ → (mvG ρ G).T g = none := fun g b o h hb => by
    simp only [mvG,h,if_true]
    cases hq : loc ρ 0 b with
    | none => rfl
    | some j => have := (loc_some hq).2; exact (hb (List.mem_of_getElem? this)).elim
  refine Calls.mono (hf (mvG ρ G) w vs W1 (fun g p x => by
    simp only [mvG] at x
    cases hq : G.T g with
    | none => rw [hq] at x; cases x
    | some q =>
      rw [hq] at x
      have := hTg g q hq
      simp only [this,if_true] at x
      cases hz : loc ρ 0 q.2.1 with
      | none => rw [hz] at x; cases x
      | some j => rw [hz] at x; cases x; rfl) (fun g => mvC_noRef (hg g) (hgl g)) (mvC_repL _ _ hr)) ?_
  rintro e w' ⟨v,G2,rfl,rv,ro,W2,F⟩
  have hμ1 : ∀ i blk,(mvG ρ G).μ i = some blk → ∃ b,ρ[i]? = some b ∧ G.μ b = some blk := fun i blk x => by
    simp only [mvG] at x
    cases hq : ρ[i]? with
    | none => rw [hq] at x; cases x
    | some q => rw [hq] at x; exact ⟨q,rfl,x⟩
  have hout : ∀ b blk,bkS ρ H.length b = none → G.μ b = some blk → ((H.at b).isSome = true ∨ (H.mp b).isSome = true) ∧ ∀ i,(mvG ρ G).μ i ≠ some blk := fun b blk hs hm => by
    obtain ⟨⟨c1,hc1⟩,_⟩ := W.dom b blk hm
    have hbl := (List.getElem?_eq_some_iff.1 hc1).1
    have hbρ : b ∉ ρ := fun hb => by
      obtain ⟨i,hi⟩ := List.getElem?_of_mem hb
      have := bkS_R (H := H) hn hl i
      unfold bkR at this
      rw [hi] at this
      rw [hs] at this; cases this
    have hlv : (H.at b).isSome = true ∨ (H.mp b).isSome = true := by
      rcases hD b hbl hbρ with h | h | h
      · exact .inl h
      · exact .inr h
      · rw [hc1] at h; cases h
    refine ⟨hlv,fun i hi => ?_⟩
    obtain ⟨q,hq,hqm⟩ := hμ1 i blk hi
    have hqρ := List.mem_of_getElem? hq
    have hne : b ≠ q := fun e => hbρ (e ▸ hqρ)
    rcases hlv with h1 | h1 <;> rcases hlive q hqρ with h2 | h2 <;> obtain ⟨x1,y1⟩ := Option.isSome_iff_exists.1 h1 <;> obtain ⟨x2,y2⟩ := Option.isSome_iff_exists.1 h2
    · exact hne (W.inj b q _ _ blk y1 y2 hm hqm)
    · obtain ⟨k,es,clk,q1,q2,_⟩ := W.mpo q x2 y2
      rw [hqm] at q1; cases q1
      obtain ⟨cs,e,⟨fr,r2,_⟩,_⟩ := W.bx y1 hm
      rw [q2] at r2; cases r2
    · obtain ⟨k,es,clk,q1,q2,_⟩ := W.mpo b x1 y1
      rw [hm] at q1; cases q1
      obtain ⟨cs,e,⟨fr,r2,_⟩,_⟩ := W.bx y2 hqm
      rw [q2] at r2; cases r2
    · exact hne (W.mpi b q _ _ blk y1 y2 hm hqm)
  have hobl : ∀ b blk,bkS ρ H.length b = none → G.μ b = some blk → w'.heap[blk]? = w.heap[blk]? ∧ G2.T blk = none ∧ (∀ i,G2.μ i ≠ some blk) ∧ ∀ o,G2.K blk o = G.K blk o := fun b blk hs hm =>
    F.old blk (W.dom b blk hm).2 (hT1 _ (W.sep b blk hm).2) (hout b blk hs hm).2
  have hμlt : ∀ b blk,G.μ b = some blk → blk < w.heap.size := fun b blk x => (W.dom b blk x).2
  have hrow : ∀ g b o,G.T g = some (1,b,o) → b ∉ ρ → w'.heap[g]? = w.heap[g]? ∧ G2.T g = none ∧ (∀ i,G2.μ i ≠ some g) ∧ ∀ o,G2.K g o = G.K g o := fun g b o hg hb =>
    F.old g (W.tlt g _ hg) (hT1b g b o hg hb) (fun i hi => by
      obtain ⟨q,_,hq⟩ := hμ1 i g hi
      have := (W.sep q g hq).2; rw [hg] at this; cases this)
  have gk : BkG (bkR ρ H.length) G2 (bkG ρ H.length w.heap.size G G2) := ⟨fun _ _ _ x => x,fun i k x => by simp only [bkG,bkS_R hn hl]; exact x,fun i z x => by simp only [bkG,bkS_R hn hl]; exact x⟩
  have le3 : G.Le (bkG ρ H.length w.heap.size G G2) := by
    refine ⟨fun b o u x => F.le.K b o u x,fun b k x => ?_,fun b z x => ?_⟩
    · simp only [bkG]
      cases hs : bkS ρ H.length b with
      | none => exact x
      | some i =>
        simp only []
        have hb := bkR_S hs
        refine F.le.μ i k ?_
        obtain ⟨⟨c1,hc1⟩,_⟩ := W.dom b k x
        have hbl := (List.getElem?_eq_some_iff.1 hc1).1
        simp only [bkS,hbl,if_true] at hs
        have := (loc_some hs).2
        rw [Nat.sub_zero] at this
        simp only [mvG,this]; exact x
    · simp only [bkG]
      cases hs : bkS ρ H.length b with
      | none => exact x
      | some i =>
        simp only []
        refine F.le.σ i z ?_
        obtain ⟨blk,_,_,_,q1,_⟩ := W.siz b z x
        obtain ⟨⟨c1,hc1⟩,_⟩ := W.dom b blk q1
        have hbl := (List.getElem?_eq_some_iff.1 hc1).1
        simp only [bkS,hbl,if_true] at hs
        have := (loc_some hs).2
        rw [Nat.sub_zero] at this
        simp only [mvG,this]; exact x
  have hSρ : ∀ b,bkS ρ H.length b = none → b ∉ ρ := fun b hs hb => by
    obtain ⟨i,hi⟩ := List.getElem?_of_mem hb
    have := bkS_R (H := H) hn hl i
    unfold bkR at this
    rw [hi] at this
    rw [hs] at this; cases this
  have ownI : ∀ (p p' : Place) (u : Value) (s n : Nat),OwnRow G2 w' p u s n → p' = (if p.1 = 1 then (1,bkR ρ H.length p.2.1,p.2.2) else p) → OwnRow (bkG ρ H.length w.heap.size G G2) w' p' u s n := fun p p' u s n O hp => by
    rcases O with O | ⟨g,cap,cur,e,a1,a2,a3,a4,a5,a6⟩
    · exact .inl O
    · refine .inr ⟨g,cap,cur,e,a1,by simp only [bkG,a2]; rw [hp],a3,a4,a5,fun b hb => ?_⟩
      simp only [bkG] at hb
      cases hs : bkS ρ H.length b with
      | some i => rw [hs] at hb; exact a6 i hb
      | none =>
        rw [hs] at hb
        have := (hobl b g hs hb).2.1
        rw [a2] at this; cases this
  refine ⟨v,bkG ρ H.length w.heap.size G G2,rfl,bkC_rep gk c v rv,fun s n xs e => ?_,⟨fun blk off u x => W2.known blk off u x,fun b cells hb => ?_,fun b blk hm => ?_,fun b b' c1 c2 blk hb hb' hm hm' => ?_,fun b blk hm => ?_,fun g p hp => ?_,fun b cells off s n xs blk u hb hc hm hv => ?_,fun b z hz => ?_,fun b l hb => ?_,fun b b' l l' blk hb hb' hm hm' => ?_⟩,F.os,F.tape,F.output,F.size,le3,fun g hg' ht hm => ?_⟩
  · obtain ⟨ys,hy⟩ := bkC_own e
    exact ownI _ _ v s n (ro s n ys hy) rfl
  · rcases bkH_at hb with ⟨i,c0,hs,h1,rfl⟩ | ⟨hs,h1⟩
    · rcases W2.box i c0 h1 with ⟨hE,hE2⟩ | ⟨blk,cs,e,q1,q2,q3,q4,q5⟩
      · exact .inl ⟨by rw [hE]; rfl,by simp only [bkG,hs]; exact hE2⟩
      · have hlen : (bkCs (bkR ρ H.length) c0).length = c0.length := by rw [bkCs_map]; simp
        exact .inr ⟨blk,cs,e,by simp only [bkG,hs]; exact q1,q2,by rw [hlen]; exact q3,by rw [hlen]; exact bkC_repL gk _ _ q4,q5⟩
    · rcases W.box b cells h1 with ⟨hE,hE2⟩ | ⟨blk,cs,e,q1,q2,q3,q4,q5⟩
      · exact .inl ⟨hE,by simp only [bkG,hs]; exact hE2⟩
      · exact .inr ⟨blk,cs,e,by simp only [bkG,hs]; exact q1,by rw [(hobl b blk hs q1).1]; exact q2,q3,q4.mono le3,q5⟩
  · simp only [bkG] at hm
    cases hs : bkS ρ H.length b with
    | some i =>
      rw [hs] at hm
      obtain ⟨⟨c1,hc1⟩,hlt⟩ := W2.dom i blk hm
      exact ⟨⟨_,bkH_some hs hc1⟩,hlt⟩
    | none =>
      rw [hs] at hm
      obtain ⟨⟨c1,hc1⟩,hlt⟩ := W.dom b blk hm
      exact ⟨⟨c1,by rw [bkH_get,hs]; exact hc1⟩,Nat.lt_of_lt_of_le hlt F.size⟩
  · simp only [bkG] at hm hm'
    rcases bkH_at hb with ⟨i,c0,hs,h1,_⟩ | ⟨hs,h1⟩ <;> rcases bkH_at hb' with ⟨i',c0',hs',h1',_⟩ | ⟨hs',h1'⟩
    · rw [hs] at hm
      rw [hs'] at hm'
      have := W2.inj i i' _ _ blk h1 h1' hm hm'
      subst this
      rw [← bkR_S hs,← bkR_S hs']
    · rw [hs] at hm
      rw [hs'] at hm'
      exact ((hobl b' blk hs' hm').2.2.1 i hm).elim
    · rw [hs] at hm
      rw [hs'] at hm'
      exact ((hobl b blk hs hm).2.2.1 i' hm').elim
    · rw [hs] at hm
      rw [hs'] at hm'
      exact W.inj b b' _ _ blk h1 h1' hm hm'
  · simp only [bkG] at hm
    cases hs : bkS ρ H.length b with
    | some i =>
      rw [hs] at hm
      obtain ⟨s1,s2⟩ := W2.sep i blk hm
      refine ⟨s1,?_⟩
      simp only [bkG,s2]
      split
      · rename_i hc
        cases hq : G.T blk with
        | none => rfl
        | some p =>
          have hp1 := hTg blk p hq
          obtain ⟨p1,pb,po⟩ := p
          simp only at hp1
          subst hp1
          have hpb : pb ∉ ρ := fun hb => by
            obtain ⟨j,hj⟩ := List.getElem?_of_mem hb
            have h1 := hc.2
            simp only [mvG,hq,if_true,loc_of (k := 0) hn hj] at h1
            cases h1
          exact ((hrow blk pb po hq hpb).2.2.1 i hm).elim
      · rfl
    | none =>
      rw [hs] at hm
      obtain ⟨s1,s2⟩ := W.sep b blk hm
      obtain ⟨o1,o2,o3,o4⟩ := hobl b blk hs hm
      refine ⟨fun o => (o4 o).trans (s1 o),?_⟩
      simp only [bkG,o2,s2]
      split <;> rfl
  · simp only [bkG] at hp
    cases hq : G2.T g with
    | some p2 => exact W2.tlt g p2 hq
    | none =>
      rw [hq] at hp
      simp only [] at hp
      split at hp
      · exact Nat.lt_of_lt_of_le (W.tlt g p hp) F.size
      · cases hp
  · simp only [bkG] at hm
    rcases bkH_at hb with ⟨i,c0,hs,h1,rfl⟩ | ⟨hs,h1⟩
    · rw [hs] at hm
      rw [bkCs_map,List.getElem?_map] at hc
      cases hq : c0[off]? with
      | none => rw [hq] at hc; cases hc
      | some y =>
        rw [hq] at hc
        simp only [Option.map_some,Option.some.injEq] at hc
        obtain ⟨ys,rfl⟩ := bkC_own hc
        refine ownI _ _ u s n (W2.own i c0 off s n ys blk u h1 hq hm hv) ?_
        rw [if_pos rfl,bkR_S hs]
    · rw [hs] at hm
      have hcell : w'.cell? ⟨blk,off,none⟩ = w.cell? ⟨blk,off,none⟩ := by
        unfold World.cell?; rw [(hobl b blk hs hm).1]
      rcases W.own b cells off s n xs blk u h1 hc hm (by rw [← hcell]; exact hv) with O | ⟨g,cap,cur,e,a1,a2,a3,a4,a5,a6⟩
      · exact .inl O
      · have hbρ := hSρ b hs
        obtain ⟨o1,o2,o3,o4⟩ := hrow g b off a2 hbρ
        refine .inr ⟨g,cap,cur,e,a1,?_,o1.trans a3,a4,fun o ho => (o4 o).trans (a5 o ho),fun b' hb' => ?_⟩
        · simp only [bkG,o2]
          rw [if_pos ⟨W.tlt g _ a2,hT1b g b off a2 hbρ⟩]; exact a2
        · simp only [bkG] at hb'
          cases hs' : bkS ρ H.length b' with
          | some i => rw [hs'] at hb'; exact o3 i hb'
          | none => rw [hs'] at hb'; exact a6 b' hb'
  · simp only [bkG] at hz ⊢
    cases hs : bkS ρ H.length b with
    | some i =>
      rw [hs] at hz
      exact W2.siz i z hz
    | none =>
      rw [hs] at hz
      obtain ⟨blk,cs,e,fr,q1,q2,q3⟩ := W.siz b z hz
      exact ⟨blk,cs,e,fr,q1,(hobl b blk hs q1).1.trans q2,q3⟩
  · rcases bkH_mp hb with ⟨i,l0,hs,h1,rfl⟩ | ⟨hs,h1⟩
    · obtain ⟨blk,es,clk,q1,q2,q3⟩ := W2.mpo i l0 h1
      exact ⟨blk,es,clk,by simp only [bkG,hs]; exact q1,q2,bkC_mrep gk _ _ q3⟩
    · obtain ⟨blk,es,clk,q1,q2,q3⟩ := W.mpo b l h1
      exact ⟨blk,es,clk,by simp only [bkG,hs]; exact q1,(hobl b blk hs q1).1.trans q2,q3.mono le3⟩
  · simp only [bkG] at hm hm'
    rcases bkH_mp hb with ⟨i,c0,hs,h1,_⟩ | ⟨hs,h1⟩ <;> rcases bkH_mp hb' with ⟨i',c0',hs',h1',_⟩ | ⟨hs',h1'⟩
    · rw [hs] at hm
      rw [hs'] at hm'
      have := W2.mpi i i' _ _ blk h1 h1' hm hm'
      subst this
      rw [← bkR_S hs,← bkR_S hs']
    · rw [hs] at hm
      rw [hs'] at hm'
      exact ((hobl b' blk hs' hm').2.2.1 i hm).elim
    · rw [hs] at hm
      rw [hs'] at hm'
      exact ((hobl b blk hs hm).2.2.1 i' hm').elim
    · rw [hs] at hm
      rw [hs'] at hm'
      exact W.mpi b b' _ _ blk h1 h1' hm hm'
  · obtain ⟨o1,o2,o3,o4⟩ := F.old g hg' (hT1 g ht) (fun i hi => by obtain ⟨q,_,hq⟩ := hμ1 i g hi; exact hm q hq)
    refine ⟨o1,?_,fun b hb => ?_,o4⟩
    · simp only [bkG,o2,ht]; split <;> rfl
    · simp only [bkG] at hb
      cases hs : bkS ρ H.length b with
      | some i => rw [hs] at hb; exact o3 i hb
      | none => rw [hs] at hb; exact hm b hb
end Go.Sx
namespace Go.Sx
open Go.RowKit
theorem loc_range' (n : Nat) : ∀ (k s b : Nat),loc (List.range' n k) s b = if n ≤ b ∧ b < n + k then some (s + (b - n)) else none
  | 0,s,b => by
    rw [if_neg (by omega)]; rfl
  | k + 1,s,b => by
    rw [List.range'_succ]
    simp only [loc]
    by_cases h : b = n
    · rw [if_pos h,if_pos (by omega)]; congr 1; omega
    · rw [if_neg h,loc_range' (n + 1) k (s + 1) b]
      by_cases h2 : n ≤ b ∧ b < n + (k + 1)
      · rw [if_pos (by omega),if_pos h2]; congr 1; omega
      · rw [if_neg (by omega),if_neg h2]
section
variable {n k : Nat}
theorem loc_sh {b : Nat} (h : b < k) : loc (List.range' n k) 0 (n + b) = some b := by
  rw [loc_range',if_pos (by omega)]; congr 1; omega
mutual
theorem mv_bk : ∀ c : C,noRef k c = true → mvC (List.range' n k) (bkC (n + ·) c) = c
  | .top,_ => by simp only [bkC,mvC]
  | .val v,_ => by simp only [bkC,mvC]
  | .sv b o m,h => by simp only [noRef,decide_eq_true_eq] at h; simp only [bkC,mvC,loc_sh h]
  | .gv b m s,h => by simp only [noRef,decide_eq_true_eq] at h; simp only [bkC,mvC,loc_sh h]
  | .bp b o,h => by simp only [noRef,decide_eq_true_eq] at h; simp only [bkC,mvC,loc_sh h]
  | .mp b,h => by simp only [noRef,decide_eq_true_eq] at h; simp only [bkC,mvC,loc_sh h]
  | .bt b t m,h => by simp only [noRef,decide_eq_true_eq] at h; simp only [bkC,mvC,loc_sh h]
  | .sl r m xs,h => by simp only [noRef] at h; simp only [bkC,mvC,mv_bks xs h]
  | .kp xs,h => by simp only [noRef] at h; simp only [bkC,mvC,mv_bks xs h]
  | .agg xs,h => by simp only [noRef] at h; simp only [bkC,mvC,mv_bks xs h]
  | .tup xs,h => by simp only [noRef] at h; simp only [bkC,mvC,mv_bks xs h]
  | .fn f xs,h => by simp only [noRef] at h; simp only [bkC,mvC,mv_bks xs h]
theorem mv_bks : ∀ l : List C,noRefs k l = true → mvCs (List.range' n k) (bkCs (n + ·) l) = l
  | [],_ => by simp only [bkCs,mvCs]
  | x :: l,h => by
    simp only [noRefs,Bool.and_eq_true] at h
    simp only [bkCs,mvCs,mv_bk x h.1,mv_bks l h.2]
end
end
def shH (n : Nat) (h : Hp) : Hp := h.map (Option.map (bkCs (n + ·)))
def okBox (o : Option (List C)) : Bool := (liveC o).isSome || (mpL o).isSome || o.isNone
theorem live_bk {r : Nat → Nat} {o : Option (List C)} (h : (liveC o).isSome = true) : (liveC (o.map (bkCs r))).isSome = true := by
  cases o with
  | none => exact h
  | some cells =>
    cases cells with
    | nil => rfl
    | cons c l => cases c <;> first | rfl | (simp only [liveC] at h; cases h)
theorem mp_bk {r : Nat → Nat} {o : Option (List C)} (h : (mpL o).isSome = true) : (mpL (o.map (bkCs r))).isSome = true := by
  obtain ⟨l,hl⟩ := Option.isSome_iff_exists.1 h
  unfold mpL at hl
  split at hl
  · cases hl; rfl
  · cases hl
theorem FC.pre {P : Program} {gl : Nat → C} {f : Nat} {args : List C} {c : C} {X h' : Hp} (hf : FC P gl f args X c h') (pre : Hp) (hpre : ∀ o ∈ pre,okBox o = true) (hX : ∀ o ∈ X,((liveC o).isSome || (mpL o).isSome) = true)
    (hn : noRefs X.length args = true) (hnX : ∀ o ∈ X,∀ cells,o = some cells → noRefs X.length cells = true) (hk : X.length ≤ h'.length) (hg : ∀ g,noRef 0 (gl g) = true) :
    FC P gl f (bkCs (pre.length + ·) args) (pre ++ shH pre.length X) (bkC (pre.length + ·) c) (pre ++ shH pre.length h') := by
  have hρl : (List.range' pre.length X.length).length = X.length := by simp
  have hHl : (pre ++ shH pre.length X).length = pre.length + X.length := by simp [shH]
  have hget : ∀ i,(pre ++ shH pre.length X)[pre.length + i]? = (X[i]?).map (Option.map (bkCs (pre.length + ·))) := fun i => by
    rw [List.getElem?_append_right (by omega)]
    unfold shH
    rw [List.getElem?_map,show pre.length + i - pre.length = i by omega]
  have hmv : mvH (List.range' pre.length X.length) (pre ++ shH pre.length X) = X := by
    unfold mvH
    apply List.ext_getElem?
    intro i
    rw [List.getElem?_map]
    by_cases hi : i < X.length
    · rw [List.getElem?_range' hi,Option.map_some,Nat.one_mul,hget]
      rw [List.getElem?_eq_getElem hi]
      simp only [Option.map_some,Option.getD_some]
      congr 1
      cases hx : X[i] with
      | none => rfl
      | some cells =>
        simp only [Option.map_some]
        congr 1
        exact mv_bks cells (hnX _ (List.getElem_mem hi) cells hx)
    · rw [List.getElem?_eq_none (by rw [hρl]; omega),List.getElem?_eq_none (by omega)]; rfl
  have hR : bkR (List.range' pre.length X.length) (pre ++ shH pre.length X).length = (pre.length + ·) := by
    funext i
    unfold bkR
    by_cases hi : i < X.length
    · rw [List.getElem?_range' hi]; simp
    · rw [List.getElem?_eq_none (by rw [hρl]; omega)]
      simp only [hρl,hHl]
      omega
  have := FC.frameH (P := P) (gl := gl) (f := f) (args := bkCs (pre.length + ·) args) (c := c) (H := pre ++ shH pre.length X) (h' := h') (List.range' pre.length X.length) List.nodup_range' (fun b hb => by
      obtain ⟨h1,h2⟩ := List.mem_range'_1.1 hb
      obtain ⟨i,rfl⟩ : ∃ i,b = pre.length + i := ⟨b - pre.length,by omega⟩
      have hi : i < X.length := by omega
      have h3 := hX _ (List.getElem_mem hi)
      simp only [Bool.or_eq_true] at h3
      unfold Hp.at Hp.mp
      rw [hget,List.getElem?_eq_getElem hi]
      exact h3.imp (fun h => live_bk h) (fun h => mp_bk h))
    (fun b hb hnb => by
      rw [hHl] at hb
      have hlt : b < pre.length := by
        rcases Nat.lt_or_ge b pre.length with h | h
        · exact h
        · exact (hnb (List.mem_range'_1.2 ⟨h,by omega⟩)).elim
      have h3 := hpre _ (List.getElem_mem hlt)
      unfold Hp.at Hp.mp
      rw [List.getElem?_append_left hlt,List.getElem?_eq_getElem hlt]
      simp only [okBox,Bool.or_eq_true] at h3
      rcases h3 with (h | h) | h
      · exact .inl h
      · exact .inr (.inl h)
      · exact .inr (.inr (by congr 1; exact Option.isNone_iff_eq_none.1 h)))
    (by rw [hmv,mv_bks args hn]; exact hf) hg
  rw [hR] at this
  have hH : bkH (List.range' pre.length X.length) (pre ++ shH pre.length X) h' = pre ++ shH pre.length h' := by
    have hS : bkH (List.range' pre.length X.length) (pre ++ shH pre.length X) h' = ((List.range (pre.length + X.length)).map fun b => match loc (List.range' pre.length X.length) 0 b with
      | some i => ((h'[i]?).getD none).map (bkCs (pre.length + ·))
      | none => ((pre ++ shH pre.length X)[b]?).getD none) ++ (h'.drop X.length).map (Option.map (bkCs (pre.length + ·))) := by
      unfold bkH; rw [hR,hHl,hρl] <;> rfl
    rw [hS,List.range_add,List.map_append,List.append_assoc]
    congr 1
    · apply List.ext_getElem?
      intro i
      rw [List.getElem?_map]
      by_cases hi : i < pre.length
      · rw [List.getElem?_range hi,Option.map_some,loc_range',if_neg (by omega)]
        simp only []
        rw [List.getElem?_append_left hi,List.getElem?_eq_getElem hi]; rfl
      · rw [List.getElem?_eq_none (by simp; omega),List.getElem?_eq_none (by omega)]; rfl
    · unfold shH
      rw [List.map_map]
      conv => rhs; rw [← List.take_append_drop X.length h',List.map_append]
      congr 1
      apply List.ext_getElem?
      intro i
      rw [List.getElem?_map,List.getElem?_map,List.getElem?_take]
      by_cases hi : i < X.length
      · rw [List.getElem?_range hi,if_pos hi,List.getElem?_eq_getElem (by omega)]
        simp only [Option.map_some,Function.comp,loc_sh hi]
        rw [List.getElem?_eq_getElem (by omega)]; rfl
      · rw [List.getElem?_eq_none (by simp; omega),if_neg hi]; rfl
  rw [hH] at this
  exact this
end Go.Sx
namespace Go.Sx
open Go.RowKit
end Go.Sx
namespace Go.Sx
open Go.RowKit
end Go.Sx
namespace Go.Sx
open Go.RowKit
def nrH (k : Nat) : Hp → Bool
  | [] => true
  | none :: l => nrH k l
  | some cells :: l => noRefs k cells && nrH k l
end Go.Sx
namespace Go.Sx
open Go.RowKit
section
variable {cx : Cx} {n : Nat} {st : St} {Q : Ex → St → Prop} {G : Gh} {w : World} {h : Hp} {b : Nat} {cells : List C}
mutual
theorem fzC_repY (H : WorldOK G h w) (hb : h.at b = some cells) {ys : List C} (hys : ∀ blk,G.μ b = some blk → RepK (fzG G w b cells.length) blk 0 ys) : ∀ (c : C) (v : Value),Rep G c v → Rep (fzG G w b cells.length) (fzC (okF h b) b ys c) v
  | .top,_,_ => by simp [fzC,Rep]
  | .val u,v,r => by simpa [fzC,Rep] using r
  | .sl r n xs,v,x => by
    simp only [fzC,Rep] at x ⊢
    obtain ⟨a,cap,h1,h2,h3,h4,h5⟩ := x
    refine ⟨a,cap,h1,h2,h3,h4,?_⟩
    rcases h5 with h5 | ⟨blk,off,ha,hk⟩
    · left; rw [h5]; rfl
    · exact .inr ⟨blk,off,ha,fzC_repKY H hb hys xs blk off hk⟩
  | .sv b' off n,v,x => by
    simp only [fzC]
    split
    · rename_i e
      subst e
      split
      · rename_i hle
        simp only [Rep] at x ⊢
        obtain ⟨a,cap,h1,h2,h3,h4⟩ := x
        refine ⟨a,cap,h1,h2,h3,by simp,?_⟩
        by_cases hn : n = 0
        · left; subst hn; simp
        · right
          obtain ⟨blk,q1,q2⟩ := h4 hn
          refine ⟨blk,off,q2,?_⟩
          have := (hys _ q1).drop off
          rw [Nat.zero_add] at this
          exact this.take n
      · simp [Rep]
    · split
      · rename_i hok
        simp only [Rep] at x ⊢
        obtain ⟨a,cap,h1,h2,h3,h4⟩ := x
        exact ⟨a,cap,h1,h2,h3,fun hz => by obtain ⟨blk,q1,q2⟩ := h4 hz; exact ⟨blk,fz_μ H hb hok q1,q2⟩⟩
      · simp [Rep]
  | .gv b' m s,v,x => by
    simp only [fzC]
    split
    · rename_i e
      subst e
      split
      · rename_i hle
        simp only [Rep] at x ⊢
        obtain ⟨a,cap,h1,h2,h3,h4⟩ := x
        refine ⟨a,cap,h1,h2,h3,by simp,?_⟩
        rcases h4 with ⟨rfl,_⟩ | ⟨blk,q1,q2,q3⟩
        · left; simp
        · right
          exact ⟨blk,0,q2,(hys _ q1).take _⟩
      · simp [Rep]
    · split
      · rename_i hok
        simp only [Rep] at x ⊢
        obtain ⟨a,cap,h1,h2,h3,h4⟩ := x
        refine ⟨a,cap,h1,h2,h3,?_⟩
        rcases h4 with h4 | ⟨blk,q1,q2,q3⟩
        · exact .inl h4
        · exact .inr ⟨blk,fz_μ H hb hok q1,q2,fz_σ H hb hok q3⟩
      · simp [Rep]
  | .mp b',v,x => by
    simp only [fzC]
    split
    · simp [Rep]
    · split
      · rename_i hok
        simp only [Rep] at x ⊢
        obtain ⟨blk,h1,h2⟩ := x
        exact ⟨blk,fz_μ H hb hok h1,h2⟩
      · simp [Rep]
  | .bt b' t n,v,x => by
    simp only [fzC]
    split
    · simp [Rep]
    · split
      · rename_i hok
        simp only [Rep] at x ⊢
        obtain ⟨blk,h1,h2,h3⟩ := x
        exact ⟨blk,fz_μ H hb hok h1,h2,fz_σ H hb hok h3⟩
      · simp [Rep]
  | .bp b' off,v,x => by
    simp only [fzC]
    split
    · rename_i e
      subst e
      simp only [Rep] at x ⊢
      obtain ⟨blk,h1,h2⟩ := x
      refine ⟨blk,off,h2,?_⟩
      have := (hys _ h1).drop off
      rwa [Nat.zero_add] at this
    · split
      · rename_i hok
        simp only [Rep] at x ⊢
        obtain ⟨blk,h1,h2⟩ := x
        exact ⟨blk,fz_μ H hb hok h1,h2⟩
      · simp [Rep]
  | .kp xs,v,x => by
    simp only [fzC,Rep] at x ⊢
    obtain ⟨blk,off,h1,h2⟩ := x
    exact ⟨blk,off,h1,fzC_repKY H hb hys xs blk off h2⟩
  | .agg xs,v,x => by
    simp only [fzC,Rep] at x ⊢
    obtain ⟨vs,h1,h2,h3⟩ := x
    exact ⟨vs,h1,fzC_repLY H hb hys xs _ h2,h3⟩
  | .tup xs,v,x => by
    simp only [fzC,Rep] at x ⊢
    obtain ⟨vs,h1,h2⟩ := x
    exact ⟨vs,h1,fzC_repLY H hb hys xs _ h2⟩
  | .fn f xs,v,x => by
    simp only [fzC,Rep] at x ⊢
    obtain ⟨vs,h1,h2⟩ := x
    exact ⟨vs,h1,fzC_repLY H hb hys xs _ h2⟩
theorem fzC_repLY (H : WorldOK G h w) (hb : h.at b = some cells) {ys : List C} (hys : ∀ blk,G.μ b = some blk → RepK (fzG G w b cells.length) blk 0 ys) : ∀ (xs : List C) (vs : List Value),RepL G xs vs → RepL (fzG G w b cells.length) (fzCs (okF h b) b ys xs) vs
  | [],vs,r => by simpa [fzCs,RepL] using r
  | x :: xs,vs,r => by
    simp only [fzCs,RepL] at r ⊢
    obtain ⟨v,vs',h1,h2,h3⟩ := r
    exact ⟨v,vs',h1,fzC_repY H hb hys x v h2,fzC_repLY H hb hys xs vs' h3⟩
theorem fzC_repKY (H : WorldOK G h w) (hb : h.at b = some cells) {ys : List C} (hys : ∀ blk,G.μ b = some blk → RepK (fzG G w b cells.length) blk 0 ys) : ∀ (xs : List C) (blk off : Nat),RepK G blk off xs → RepK (fzG G w b cells.length) blk off (fzCs (okF h b) b ys xs)
  | [],_,_,_ => by simp [fzCs,RepK]
  | x :: xs,blk,off,r => by
    simp only [fzCs,RepK] at r ⊢
    obtain ⟨⟨u,h1,h2,h3⟩,h4⟩ := r
    exact ⟨⟨u,(fz_le H _).K _ _ _ h1,h2,fzC_repY H hb hys x u h3⟩,fzC_repKY H hb hys xs blk (off + 1) h4⟩
end
theorem fzC_mrepY (H : WorldOK G h w) (hb : h.at b = some cells) {ys : List C} (hys : ∀ blk,G.μ b = some blk → RepK (fzG G w b cells.length) blk 0 ys) : ∀ (l : List C) (es : List MapEntry),MRep G l es → MRep (fzG G w b cells.length) (fzCs (okF h b) b ys l) es
  | [],_,r => by simpa [MRep,fzCs] using r
  | [_],_,r => by simp [MRep] at r
  | k :: v :: l,es,r => by
    simp only [MRep,fzCs] at r ⊢
    obtain ⟨e,es',h1,h2,h3,h4⟩ := r
    exact ⟨e,es',h1,fzC_repY H hb hys k _ h2,fzC_repY H hb hys v _ h3,fzC_mrepY H hb hys l es' h4⟩
theorem WorldOK.fzY (H : WorldOK G h w) (hb : h.at b = some cells) {ys : List C} (hys : ∀ blk,G.μ b = some blk → RepK (fzG G w b cells.length) blk 0 ys) : WorldOK (fzG G w b cells.length) (fzH (okF h b) b ys h) w := by
  have hlen := Hp.at_lt hb
  have hμ : ∀ {j blk},(fzG G w b cells.length).μ j = some blk → G.μ j = some blk ∧ j ≠ b ∧ G.μ b ≠ some blk := fun {j blk} x => by
    simp only [fzG] at x
    split at x
    · cases x
    · rename_i hne
      refine ⟨x,fun e => hne (.inl e),fun e => hne (.inr ⟨blk,e,x⟩)⟩
  refine ⟨fun blk off u hk => ?_,fun j c' hj => ?_,fun j blk hm => ?_,fun j j' c c' blk hj hj' hm hm' => ?_,fun j blk hm => ?_,H.tlt,fun j c' off s m xs blk v hj hc hm hv => ?_,fun j z hz => ?_,fun j l hj => ?_,fun j j' l l' blk x x' y y' => ?_⟩
  · simp only [fzG] at hk
    split at hk
    · exact hk
    · exact H.known blk off u hk
  · obtain ⟨hne,c0,h2,rfl⟩ := fzH_at hb hj
    have hok : okF h b j = true := by simp [okF,h2,hne]
    rcases H.box j c0 h2 with ⟨hE,hE2⟩ | ⟨blk,cs,e,q1,q2,q3,q4,q5⟩
    · refine .inl ⟨by rw [hE]; rfl,?_⟩
      simp only [fzG]
      split
      · rfl
      · exact hE2
    · have hl : (fzCs (okF h b) b ys c0).length = c0.length := by rw [fzCs_map]; simp
      exact .inr ⟨blk,cs,e,fz_μ H hb hok q1,q2,by rw [hl]; exact q3,by rw [hl]; exact fzC_repLY H hb hys _ _ q4,q5⟩
  · obtain ⟨h1,h2,h3⟩ := hμ hm
    obtain ⟨⟨c,hc⟩,hl⟩ := H.dom j blk h1
    refine ⟨⟨fzCs (okF h b) b ys c,?_⟩,hl⟩
    unfold fzH
    rw [List.getElem?_set,if_neg (Ne.symm h2),List.getElem?_map,hc]; rfl
  · obtain ⟨h1,_,_⟩ := hμ hm
    obtain ⟨h1',_,_⟩ := hμ hm'
    obtain ⟨_,c0,g2,_⟩ := fzH_at hb hj
    obtain ⟨_,c0',g2',_⟩ := fzH_at hb hj'
    exact H.inj j j' _ _ blk g2 g2' h1 h1'
  · obtain ⟨h1,h2,h3⟩ := hμ hm
    obtain ⟨s1,s2⟩ := H.sep j blk h1
    refine ⟨fun o => ?_,s2⟩
    simp only [fzG]
    rw [if_neg (fun x => h3 x.1)]
    exact s1 o
  · obtain ⟨h1,_,_⟩ := hμ hm
    obtain ⟨_,c0,g2,rfl⟩ := fzH_at hb hj
    rw [fzCs_map,List.getElem?_map] at hc
    cases hq : c0[off]? with
    | none => rw [hq] at hc; cases hc
    | some y =>
      rw [hq] at hc
      simp only [Option.map_some,Option.some.injEq] at hc
      obtain ⟨zs,rfl⟩ := fzC_own hc
      exact (H.own j c0 off s m zs blk v g2 hq h1 hv).fz
  · simp only [fzG] at hz ⊢
    split at hz
    · cases hz
    · rename_i hne
      obtain ⟨blk,cs,e,fr,q1,q2,q3⟩ := H.siz j z hz
      exact ⟨blk,cs,e,fr,by rw [if_neg hne]; exact q1,q2,q3⟩
  · obtain ⟨n1,l0,n2,rfl⟩ := fzH_mp hlen hj
    obtain ⟨blk,es,clk,q1,q2,q3⟩ := H.mpo j l0 n2
    have hok : okF h b j = true := by simp [okF,n2,n1]
    exact ⟨blk,es,clk,fz_μ H hb hok q1,q2,fzC_mrepY H hb hys l0 _ q3⟩
  · obtain ⟨n1,l0,n2,rfl⟩ := fzH_mp hlen x
    obtain ⟨n1',l0',n2',rfl⟩ := fzH_mp hlen x'
    exact H.mpi j j' _ _ blk n2 n2' (hμ y).1 (hμ y').1
end
end Go.Sx
namespace Go.Sx
theorem LM {p : Prop} (h : p := by (simp only [Le_nil,Le_cons,↓A_cons,CLe_refl,CLe_top,CLe_full,CLe_nil,CLe_own,and_true,true_and,mvH_eq,mvHa_nil,mvHa_cons,hget_0,hget_S,Option.map_some,Option.map_none,mvCs_cl,mvCs_f,mvCs_nil,mvCs_cons,mvC_val,mvC_top,mvC_sl,mvC_gv,mvC_sv,mvC_bp,mvC_agg,mvC_kp,mvGv_some,mvGv_none,mvSv_some,mvSv_none,mvBp_some,mvBp_none,loc_nil,loc_cons,↓reduceIte,Nat.reduceEqDiff,reduceCtorEq,Nat.reduceAdd,Nat.zero_add,Nat.one_ne_zero,Nat.zero_ne_one,mvC_fn,mvC_bt,mvBt_some,mvBt_none,mvC_mp,mvMp_some,mvMp_none]; all_goals (repeat' first | exact CLe.refl _ | exact True.intro | (with_reducible refine And.intro ?_ ?_)))) : p := h
end Go.Sx
namespace Go.Sx
open Go.RowKit
def atG (f : Nat) (pre : List C) : Nat → C
  | 0 => .top
  | d + 1 => .kp [.fn f (pre ++ [atG f pre d])]
theorem mvCs_app (ρ : List Nat) (x : C) : ∀ l : List C,mvCs ρ (l ++ [x]) = mvCs ρ l ++ [mvC ρ x]
  | [] => by simp [mvCs]
  | y :: l => by simp only [List.cons_append,mvCs,mvCs_app ρ x l]
theorem atG_mv (ρ : List Nat) (f : Nat) (pre : List C) : ∀ d,mvC ρ (atG f pre d) = atG f (mvCs ρ pre) d
  | 0 => by simp only [atG,mvC]
  | d + 1 => by simp only [atG,mvC,mvCs,mvCs_app,atG_mv ρ f pre d]
theorem fzCs_app (ok : Nat → Bool) (b : Nat) (ys : List C) (x : C) : ∀ l : List C,fzCs ok b ys (l ++ [x]) = fzCs ok b ys l ++ [fzC ok b ys x]
  | [] => by simp [fzCs]
  | y :: l => by simp only [List.cons_append,fzCs,fzCs_app ok b ys x l]
theorem atG_fz (ok : Nat → Bool) (b : Nat) (ys : List C) (f : Nat) (pre : List C) : ∀ d,fzC ok b ys (atG f pre d) = atG f (fzCs ok b ys pre) d
  | 0 => by simp only [atG,fzC]
  | d + 1 => by simp only [atG,fzC,fzCs,fzCs_app,atG_fz ok b ys f pre d]
section
variable (ok : Nat → Bool) (b : Nat) (ys : List C)
theorem fzC_sv (b' o n : Nat) : fzC ok b ys (.sv b' o n) = if b' = b then (if o + n ≤ ys.length then .sl .no n ((ys.drop o).take n) else .top) else if ok b' = true then .sv b' o n else .top := by simp only [fzC]
theorem fzC_bp (b' o : Nat) : fzC ok b ys (.bp b' o) = if b' = b then .kp (ys.drop o) else if ok b' = true then .bp b' o else .top := by simp only [fzC]
theorem fzC_mp (b' : Nat) : fzC ok b ys (.mp b') = if b' = b then .top else if ok b' = true then .mp b' else .top := by simp only [fzC]
theorem fzC_bt (b' t n : Nat) : fzC ok b ys (.bt b' t n) = if b' = b then .top else if ok b' = true then .bt b' t n else .top := by simp only [fzC]
theorem scr_sv (b o n : Nat) : scr ok (.sv b o n) = if ok b = true then .sv b o n else .top := by simp only [scr]
theorem scr_gv (b n : Nat) (s : Nat × Nat) : scr ok (.gv b n s) = if ok b = true then .gv b n s else .top := by simp only [scr]
theorem scr_bp (b o : Nat) : scr ok (.bp b o) = if ok b = true then .bp b o else .top := by simp only [scr]
theorem scr_mp (b : Nat) : scr ok (.mp b) = if ok b = true then .mp b else .top := by simp only [scr]
theorem scr_bt (b t n : Nat) : scr ok (.bt b t n) = if ok b = true then .bt b t n else .top := by simp only [scr]
theorem scr_kp (xs : List C) : scr ok (.kp xs) = .kp (scrs ok xs) := by simp only [scr]
theorem scr_agg (xs : List C) : scr ok (.agg xs) = .agg (scrs ok xs) := by simp only [scr]
theorem scr_fn (f : Nat) (xs : List C) : scr ok (.fn f xs) = .fn f (scrs ok xs) := by simp only [scr]
theorem scr_top : scr ok .top = .top := by simp only [scr]
theorem scr_val (v : Value) : scr ok (.val v) = .val v := by simp only [scr]
theorem scrs_nil : scrs ok [] = [] := by simp only [scrs]
theorem scrs_cons (x : C) (xs : List C) : scrs ok (x :: xs) = scr ok x :: scrs ok xs := by simp only [scrs]
theorem scrs_cl {α : Type} (f : α → List C) [h : Nrf f] (l : List α) : scrs ok (cl f l) = cl f l := scrs_nr ok _ (noRefs_cl f 0 l)
theorem scrs_f {α : Type} (f : α → List C) [h : Nrf f] (a : α) : scrs ok (f a) = f a := scrs_nr ok _ (h.nr 0 a)
theorem noR_f {α : Type} (f : α → List C) {s : Nat} [h : Cel f s] (a : α) : List.map C.noR (f a) = f a := h.clean a
theorem scr_sl {α : Type} (f : α → List C) [h : Nrf f] (r : Rt) (l : List α) : scr ok (sl f r l) = sl f r l := by unfold sl; simp only [scr,scrs_cl]
theorem fzH_eq (h : Hp) : fzH ok b ys h = (h.map fun o => o.map (fzCs ok b ys)).set b (some deadC) := rfl
theorem fzY_eq (h : Hp) (cells : List C) : fzY h b cells = (scrs (okF h b) cells).map C.noR := rfl
end
section
variable {cx : Cx} {Q : Ex → St → Prop} {e : List (Nat × C)} {h : Hp} {c : Code}
theorem Tr.f1 (hcx : CxOK cx) (b : Nat) (cells : List C) {e' : List (Nat × C)} {h' : Hp} (H : Tr cx 0 c ⟨A e',h'⟩ Q)
    (hb : h.at b = some cells := by simp only [go_sem])
    (E : ∀ K : List (Nat × C) → Hp → Prop,K e' h' → K (mapE (fzC (okF h b) b (fzY h b cells)) e) (fzH (okF h b) b (fzY h b cells) h) := by
      intro KZ hZ
      simp -implicitDefEqProofs only [go_sem,fzY_eq,fzY_cl,fzH_eq,mapE_nil,mapE_cons,fzC_val,fzC_top,fzC_agg,fzC_tup,fzC_kp,fzC_fn,fzC_sl,fzC_sv,fzC_bp,fzC_mp,fzC_bt,fzC_gv,fzCs_nil,fzCs_cons,fzCs_cl,scr_sv,scr_gv,scr_bp,scr_mp,scr_bt,scr_kp,scr_agg,scr_fn,scr_top,scr_val,scr_sl,scrs_nil,scrs_cons,scrs_cl,scrs_f,noR_f,fzCs_f,atG_fz,okF_eq,Option.isSome_some,Option.isSome_none,Nat.reduceBNe,Bool.true_and,Bool.and_true,Bool.false_and,Bool.true_or,Bool.false_or,↓reduceIte,Nat.reduceEqDiff,reduceCtorEq,Nat.zero_ne_one,Nat.one_ne_zero]
      with_reducible exact hZ) : Tr cx 0 c ⟨A e,h⟩ Q :=
  Tr.fzA hcx b cells hb (Nat.zero_le _) (fun j hj => absurd hj (Nat.not_lt_zero j)) (E (fun x y => Tr cx 0 c ⟨A x,y⟩ Q) H)
end
end Go.Sx
namespace Go.Sx
open Go.RowKit
def OkH (h : Hp) : Prop := ∀ o ∈ h,okBox o = true
structure Small (P : Program) (gl : Nat → C) (f : Nat) (α : Type) where
  k : Nat
  j : Nat
  args : α → List C
  X : α → Hp
  r : α → C
  Y : α → Hp
  k0 : 0 < k
  hk : ∀ a,(X a).length = k
  hy : ∀ a,(Y a).length = k
  al : ∀ a,∀ o ∈ X a,((liveC o).isSome || (mpL o).isSome) = true
  nr : ∀ a,noRefs k (args a) = true
  nx : ∀ a,nrH k (X a) = true
  at0 : ∀ a,∃ o,(args a)[j]? = some (.bp 0 o)
  inj : ∀ a b,args a = args b → X a = X b → r a = r b ∧ Y a = Y b
  fc : ∀ a,FC P gl f (args a) (X a) (r a) (Y a)
section
variable {P : Program} {gl : Nat → C} {f : Nat} {α : Type}
inductive SmD (α : Type) where
  | n (a : α) (pre suf : Hp) (h1 : OkH pre) (h2 : OkH suf)
  | e (xs : List C) (h : ∃ b o,C.bp b o ∈ xs)
end
theorem OkH.nil : OkH [] := fun o h => by cases h
theorem OkH.cons {o : Option (List C)} {h : Hp} (h1 : okBox o = true) (h2 : OkH h) : OkH (o :: h) := fun p hp => by
  rcases List.mem_cons.1 hp with rfl | hp
  · exact h1
  · exact h2 p hp
mutual
theorem bk_nr (r : Nat → Nat) : ∀ c : C,noRef 0 c = true → bkC r c = c
  | .val _,_ => by simp only [bkC]
  | .top,_ => by simp only [bkC]
  | .agg xs,h => by simp only [noRef] at h; simp only [bkC,bks_nr r xs h]
  | .tup xs,h => by simp only [noRef] at h; simp only [bkC,bks_nr r xs h]
  | .kp xs,h => by simp only [noRef] at h; simp only [bkC,bks_nr r xs h]
  | .sl _ _ xs,h => by simp only [noRef] at h; simp only [bkC,bks_nr r xs h]
  | .fn _ xs,h => by simp only [noRef] at h; simp only [bkC,bks_nr r xs h]
  | .sv _ _ _,h => by simp [noRef] at h
  | .gv _ _ _,h => by simp [noRef] at h
  | .bp _ _,h => by simp [noRef] at h
  | .bt _ _ _,h => by simp [noRef] at h
  | .mp _,h => by simp [noRef] at h
theorem bks_nr (r : Nat → Nat) : ∀ l : List C,noRefs 0 l = true → bkCs r l = l
  | [],_ => by simp only [bkCs]
  | x :: xs,h => by simp only [noRefs,Bool.and_eq_true] at h; simp only [bkCs,bk_nr r x h.1,bks_nr r xs h.2]
end
end Go.Sx
namespace Go.Sx
open Go.RowKit
section
variable {cx : Cx} {Q : Ex → St → Prop} {e : List (Nat × C)} {h : Hp} {c : Code}
theorem Tr.m1 (hcx : CxOK cx) (ρ : List Nat) {e' : List (Nat × C)} {h' : Hp} (H : Tr cx 0 c ⟨A e',h'⟩ Q)
    (hρ : okρ 0 ρ := by exact ⟨by decide,by decide,fun j hj => absurd hj (Nat.not_lt_zero j)⟩)
    (E : ∀ K : List (Nat × C) → Hp → Prop,K e' h' → K (mapE (mvC ρ) e) (mvH ρ h) := by
      intro KZ hZ
      simp -implicitDefEqProofs only [mapE_nil,mapE_cons,atG_mv,mvH_eq,mvHa_nil,mvHa_cons,hget_0,hget_S,Option.map_some,Option.map_none,mvCs_cl,mvCs_f,mvCs_nil,mvCs_cons,mvC_val,mvC_top,mvC_sl,mvC_gv,mvC_sv,mvC_bp,mvC_agg,mvC_kp,mvGv_some,mvGv_none,mvSv_some,mvSv_none,mvBp_some,mvBp_none,loc_nil,loc_cons,↓reduceIte,Nat.reduceEqDiff,reduceCtorEq,Nat.reduceAdd,Nat.zero_add,Nat.one_ne_zero,Nat.zero_ne_one,mvC_fn,mvC_bt,mvBt_some,mvBt_none,mvC_mp,mvMp_some,mvMp_none]
      with_reducible exact hZ) : Tr cx 0 c ⟨A e,h⟩ Q :=
  Tr.mvA hcx ρ hρ (E (fun x y => Tr cx 0 c ⟨A x,y⟩ Q) H)
end
end Go.Sx
namespace Go.Sx
open Go.RowKit
end Go.Sx
