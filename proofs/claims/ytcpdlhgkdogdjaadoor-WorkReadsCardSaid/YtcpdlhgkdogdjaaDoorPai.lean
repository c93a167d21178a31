/-
   And what follows.
-/
import Derived.Test.YtcpdlhgkdogdjaaDoorPah
set_option linter.unusedSimpArgs false
set_option linter.unusedVariables false
namespace Go.Sx
open Go.RowKit
def nones : List Oper → Hp
  | [] => []
  | o :: l => if makes o then none :: nones l else nones l
theorem nones_eq : ∀ l : List Oper,nones l = List.replicate (l.countP makes) none
  | [] => rfl
  | o :: l => by
    unfold nones
    rw [List.countP_cons,nones_eq l]
    split <;> simp_all [List.replicate_succ]
def ini : Nat → List C → List (Nat × C)
  | _,[] => []
  | k,c :: cs => (k,c.noR) :: ini (k + 1) cs
theorem A_ini : ∀ (l : List C) (k t : Nat),A (ini k l) t = if k ≤ t then (match l[t - k]? with | some c => c.noR | none => .top) else .top
  | [],k,t => by simp [ini,A]
  | c :: l,k,t => by
    simp only [ini,A,A_ini l (k + 1) t]
    by_cases h : t = k
    · subst h; simp
    · simp only [if_neg h]
      by_cases h2 : k ≤ t
      · have h3 : k + 1 ≤ t := by omega
        simp only [h2,h3,if_true]
        have : t - k = (t - (k + 1)) + 1 := by omega
        rw [this]; simp
      · have h3 : ¬ k + 1 ≤ t := by omega
        simp only [h2,h3,if_false]
theorem CLe.init (args : List C) (t : Nat) : CLe (init args t) (A (ini 0 args) t) := by
  rw [A_ini]
  simp only [Nat.zero_le,if_true,Nat.sub_zero]
  unfold Sx.init
  cases args[t]? with
  | none => exact CLe.top _
  | some c => exact CLe.refl _
section
variable {cx : Cx} {n : Nat} {Q : Ex → St → Prop} {e : List (Nat × C)} {h : Hp}
theorem Tr.reg (hcx : CxOK cx) {id : Nat} {l : List Oper} (H : runE cx (l.filterMap appOf) (l.map (·.dst)) l h.length ⟨A e,h ++ nones l⟩ (Q .normal)) : Tr cx n (.region id l.toArray false) ⟨A e,h⟩ Q := by
  rw [nones_eq] at H
  exact Tr.regionE hcx H
theorem Tr.regD (hcx : CxOK cx) (hm : cx.P.follows .mixedOrders = true) {id : Nat} {l : List Oper} (hs : regStatic l.toArray = true)
    (H : runD cx (l.filterMap appOf) (l.map (·.dst)) l h.length ⟨A e,h ++ nones l⟩ [] (fun fs s => confsOK l.toArray fs.reverse = true ∧ Q .normal s)) : Tr cx n (.region id l.toArray true) ⟨A e,h⟩ Q := by
  rw [nones_eq] at H
  exact Tr.regionDE hcx hm hs H
theorem Tr.blk {id : Nat} {c : Code} {st : St} (H : Tr cx n c st (blockQ id Q)) : Tr cx n (.block id c) st Q := Tr.block H
end
def resL (cx : Cx) (st : St) : List ResultVar → Option C
  | [r] => resC cx st r
  | rs => (rs.mapM (resC cx st)).map fun cs => .tup (cs.map C.noR)
def EndsR (cx : Cx) (rs : List ResultVar) (c : C) : Ex → St → Prop
  | .exit _,_ => False
  | _,st => resL cx st rs = some c
theorem FC.ofA {cx : Cx} {f : Nat} {fn : Func} {code : Code} {args : List C} {c : C} {rs : List ResultVar} (hN : cx.N = fn.ntmps) (hf : cx.P.funcs[f]? = some fn) (hn : (fn.name == "runtime.NumGoroutine") = false) (hb : fn.body = some code)
    (hrs : fn.results = rs.toArray) (hlen : args.length ≤ fn.ntmps) (hc : noRef 0 c = true) (hT : Tr cx 0 code ⟨A (ini 0 args),[]⟩ (EndsR cx rs c)) : FC cx.P cx.gl f args [] c [] := by
  refine FC.of hN hf hn hb hlen ?_
  refine Tr.weaken (fun t => CLe.init args t) (hT.mono fun x st q => ?_)
  have key : resL cx st rs = some c → results cx fn st = some c ∧ ((st.h.take 0 = [] ∧ noRef 0 c = true ∧ ∀ (b : Nat) cells,b < 0 → st.h[b]? = some (some cells) → noRefs 0 cells = true) ∨ st.h = []) := fun q => by
    refine ⟨?_,.inl ⟨by simp,hc,fun b cells hb => absurd hb (Nat.not_lt_zero b)⟩⟩
    rw [← q]
    unfold results
    rw [hrs]
    rcases rs with _ | ⟨r,_ | ⟨r2,rs⟩⟩ <;> rfl
  cases x with
  | exit k => exact q
  | normal => exact key q
  | ret => exact key q
theorem A_cons (k : Nat) (c : C) (l : List (Nat × C)) (t : Nat) : A ((k,c) :: l) t = if t = k then c else A l t := rfl
theorem killS_none (env : Nat → C) : killS none env = env := rfl
theorem killS_A (k : Nat) (l : List (Nat × C)) : killS (some k) (A l) = A ((k,(A l k).noR) :: l) := by
  funext t
  simp only [killS,A]
theorem ev_tmp (cx : Cx) (env : Nat → C) (t : Nat) : cx.ev env (.tmp t) = env t := rfl
theorem ev_const (cx : Cx) (env : Nat → C) (v : Value) : cx.ev env (.const v) = .val v := rfl
open Classical in
noncomputable def tabOf {α : Type} (enc : α → List C) (out : α → C) (args : List C) : Option C :=
  if h : ∃ a,enc a = args then some (out h.choose) else none
theorem tabOf_enc {α : Type} {enc : α → List C} {out : α → C} (hi : ∀ a b,enc a = enc b → out a = out b) (a : α) : tabOf enc out (enc a) = some (out a) := by
  have h : ∃ b,enc b = enc a := ⟨a,rfl⟩
  unfold tabOf
  rw [dif_pos h]
  exact congrArg some (hi _ _ h.choose_spec)
theorem tabOf_some {α : Type} {enc : α → List C} {out : α → C} {args : List C} {c : C} (h : tabOf enc out args = some c) : ∃ a,enc a = args ∧ out a = c := by
  unfold tabOf at h
  split at h
  · rename_i h2; exact ⟨_,h2.choose_spec,Option.some.inj h⟩
  · cases h
def ext (pu : Nat → List C → Option C) (f : Nat) (sp : List C → Option C) : Nat → List C → Option C := fun g args => if g = f then sp args else pu g args
theorem ext_hit {pu : Nat → List C → Option C} {f : Nat} {sp : List C → Option C} (args : List C) : ext pu f sp f args = sp args := if_pos rfl
theorem ext_miss {pu : Nat → List C → Option C} {f g : Nat} {sp : List C → Option C} (h : g ≠ f) (args : List C) : ext pu f sp g args = pu g args := if_neg h
theorem CxOK.ext {P : Program} {km : TypeId → Value → Bool} {gl : Nat → C} {pu : Nat → List C → Option C} {hp : Nat → List C → Hp → Option (C × Hp)} {N M : Nat} (hcx : CxOK ⟨P,N,gl,pu,hp,fun _ => false,km,true⟩) (hg : ∀ g,noRef 0 (gl g) = true)
    {α : Type} {enc : α → List C} {out : α → C} {f : Nat} (he : ∀ a,noRefs 0 (enc a) = true) (h : ∀ a,FC P gl f (enc a) [] (out a) []) : CxOK ⟨P,M,gl,Sx.ext pu f (tabOf enc out),hp,fun _ => false,km,true⟩ := by
  refine ⟨hg,fun g args c hc k => ?_,fun g args k c k' hc => hcx.hp g args k c k' hc,hcx.km⟩
  by_cases hgf : g = f
  · subst hgf
    have hc' : tabOf enc out args = some c := by rw [← hc]; exact (ext_hit args).symm
    obtain ⟨a,rfl,rfl⟩ := tabOf_some hc'
    exact (h a).frame (he a) hg k
  · have hc' : pu g args = some c := by rw [← hc]; exact (ext_miss hgf args).symm
    exact hcx.pu g args c hc' k
theorem CxOK.rnd {cx : Cx} (hcx : CxOK cx) : CxOK { cx with top := false } := ⟨hcx.glo,hcx.pu,hcx.hp,hcx.km⟩
theorem CxOK.zeroK {P : Program} {km : TypeId → Value → Bool} {gl : Nat → C} {N : Nat} (hg : ∀ g,noRef 0 (gl g) = true) (hk : ∀ k u,km k u = true → Go.Maps.Keyed P k ∧ ∃ l,keyOf P k u = some l) : CxOK ⟨P,N,gl,fun _ _ => none,fun _ _ _ => none,fun _ => false,km,true⟩ :=
  ⟨hg,fun _ _ _ h _ => (Option.some_ne_none _ h.symm).elim,fun _ _ _ _ _ h => (Option.some_ne_none _ h.symm).elim,hk⟩
theorem CxOK.zero {P : Program} {gl : Nat → C} {N : Nat} (hg : ∀ g,noRef 0 (gl g) = true) : CxOK ⟨P,N,gl,fun _ _ => none,fun _ _ _ => none,fun _ => false,fun _ _ => false,true⟩ :=
  CxOK.zeroK hg fun _ _ h => by cases h
theorem CxOK.reN {P : Program} {km : TypeId → Value → Bool} {gl : Nat → C} {pu : Nat → List C → Option C} {hp : Nat → List C → Hp → Option (C × Hp)} {N M : Nat} (hcx : CxOK ⟨P,N,gl,pu,hp,fun _ => false,km,true⟩) : CxOK ⟨P,M,gl,pu,hp,fun _ => false,km,true⟩ := ⟨hcx.glo,hcx.pu,hcx.hp,hcx.km⟩
end Go.Sx
namespace Go.Sx
open Go.RowKit
def dOK (N : Nat) : Option Nat → Prop
  | some d => d < N
  | none => True
theorem dOK_some (N d : Nat) : dOK N (some d) = (d < N) := rfl
theorem dOK_none (N : Nat) : dOK N none = True := rfl
theorem dOK_iff (N : Nat) (d : Option Nat) : dstOK N d = true ↔ dOK N d := by
  cases d <;> simp [dstOK,dOK]
def mkE : Option Nat → C → List (Nat × C) → List (Nat × C)
  | some d,c,e => (d,c) :: e
  | none,_,e => e
theorem A_mkE (d : Option Nat) (c : C) (e : List (Nat × C)) : put d c (A e) = A (mkE d c e) := by
  cases d <;> rfl
def isA (apps : List Nat) : Option Nat → Bool
  | some t => apps.contains t
  | none => false
theorem isA_nil (d : Option Nat) : isA [] d = false := by cases d <;> rfl
theorem isA_cons (a : Nat) (l : List Nat) (t : Nat) : isA (a :: l) (some t) = (t == a || isA l (some t)) := by
  by_cases hh : t = a <;> simp [isA,hh]
def vp (c : C) : Plan := .val c none
def on (cx : Cx) (e : List (Nat × C)) (x : Operand) : C := (cx.ev (A e) x).noR
def orw (cx : Cx) (e : List (Nat × C)) (x : Operand) : C := cx.ev (A e) x
def onM (cx : Cx) (e : List (Nat × C)) : List Operand → List C
  | [] => []
  | x :: l => on cx e x :: onM cx e l
def onP (cx : Cx) (e : List (Nat × C)) : List (Nat × Operand) → List (Nat × C)
  | [] => []
  | (i,x) :: l => (i,on cx e x) :: onP cx e l
theorem onM_eq (cx : Cx) (e : List (Nat × C)) (l : List Operand) : l.map (cx.evn (A e)) = onM cx e l := by
  induction l with
  | nil => rfl
  | cons x l ih => simp only [List.map_cons,ih,onM]; rfl
theorem onP_eq (cx : Cx) (e : List (Nat × C)) (l : List (Nat × Operand)) : (l.map fun x => (x.1,cx.evn (A e) x.2)) = onP cx e l := by
  induction l with
  | nil => rfl
  | cons x l ih => obtain ⟨i,x⟩ := x; simp only [List.map_cons,ih,onP]; rfl
theorem on_tmp (cx : Cx) (e : List (Nat × C)) (t : Nat) : on cx e (.tmp t) = (A e t).noR := rfl
theorem on_const (cx : Cx) (e : List (Nat × C)) (v : Value) : on cx e (.const v) = .val v := rfl
theorem on_global (cx : Cx) (e : List (Nat × C)) (g : Nat) : on cx e (.global g) = (cx.gl g).noR := by
  unfold on; simp only [Cx.ev]; cases hh : cx.gl g <;> first | rfl | skip
  rename_i r n xs
  cases r <;> rfl
theorem on_func (cx : Cx) (e : List (Nat × C)) (f : Nat) : on cx e (.func f) = .fn f [] := rfl
theorem orw_tmp (cx : Cx) (e : List (Nat × C)) (t : Nat) : orw cx e (.tmp t) = A e t := rfl
theorem orw_const (cx : Cx) (e : List (Nat × C)) (v : Value) : orw cx e (.const v) = .val v := rfl
theorem tmpq_tmp (t : Nat) : tmp? (.tmp t) = some t := rfl
theorem tmpq_const (v : Value) : tmp? (.const v) = none := rfl
theorem noR_val (v : Value) : (C.val v).noR = .val v := rfl
theorem noR_full (n : Nat) (xs : List C) : (C.sl .full n xs).noR = .sl .full n xs := rfl
theorem noR_no (n : Nat) (xs : List C) : (C.sl .no n xs).noR = .sl .no n xs := rfl
theorem noR_bp (b o : Nat) : (C.bp b o).noR = .bp b o := rfl
theorem noR_kp (xs : List C) : (C.kp xs).noR = .kp xs := rfl
theorem noR_agg (xs : List C) : (C.agg xs).noR = .agg xs := rfl
theorem noR_tup (xs : List C) : (C.tup xs).noR = .tup xs := rfl
theorem noR_fn (f : Nat) (xs : List C) : (C.fn f xs).noR = .fn f xs := rfl
theorem noR_top : C.top.noR = .top := rfl
theorem share_val (k : IntKind) (n : Int) : (C.val (.int k n)).share = .val (.int k n) := rfl
theorem share_bp (b o : Nat) : (C.bp b o).share = .bp b o := rfl
theorem share_agg (xs : List C) : (C.agg xs).share = .agg xs := rfl
def shares : List C → List C
  | [] => []
  | c :: l => c.share :: shares l
theorem shares_eq (l : List C) : l.map C.share = shares l := by
  induction l with
  | nil => rfl
  | cons x l ih => simp only [List.map_cons,ih,shares]
def GB (b : Bool) (P Q : Prop) : Prop := (b = true → P) ∧ (b = false → Q)
theorem GB_true (P Q : Prop) : GB true P Q = P := by simp [GB]
theorem GB_false (P Q : Prop) : GB false P Q = Q := by simp [GB]
theorem GB.mk {b : Bool} {P Q : Prop} (h : b = true → P) (k : b = false → Q) : GB b P Q := ⟨h,k⟩
theorem GB.pos {b : Bool} {P Q : Prop} (hb : b = true) (h : P) : GB b P Q := ⟨fun _ => h,fun e => (Bool.noConfusion (hb.symm.trans e))⟩
theorem GB.neg {b : Bool} {P Q : Prop} (hb : b = false) (h : Q) : GB b P Q := ⟨fun e => (Bool.noConfusion (hb.symm.trans e)),fun _ => h⟩
@[congr] theorem GB_congr {b b' : Bool} {P Q : Prop} (h : b = b') : GB b P Q = GB b' P Q := by rw [h]
theorem GB.dec {p : Prop} [Decidable p] {P Q : Prop} (h : p → P) (k : ¬ p → Q) : GB (decide p) P Q := ⟨fun e => h (by simpa using e),fun e => k (by simpa using e)⟩
def AN (p q : Prop) : Prop := p ∧ q
@[congr] theorem AN_congr {p p' q : Prop} (h : p = p') : AN p q = AN p' q := by rw [h]
theorem AN_true (q : Prop) : AN True q = q := by simp [AN]
def run (cx : Cx) (apps : List Nat) (dsts : List (Option Nat)) (l : List Oper) (id : Nat) (e : List (Nat × C)) (h : Hp) (fs : List FP) (K : List FP → St → Prop) : Prop :=
  runD cx apps dsts l id ⟨A e,h⟩ fs K
section
variable (cx : Cx) (apps : List Nat) (dsts : List (Option Nat)) (l : List Oper) (id id' : Nat) (d : Option Nat) (e : List (Nat × C)) (h : Hp) (fs : List FP) (K : List FP → St → Prop)
def stV (p : Option Plan) : Prop := act1D cx id d ⟨A e,h⟩ (fun f s => runD cx apps dsts l id' s (f :: fs) K) p
def stR (b : Nat) (o : Option C) : Prop := match o with
  | none => False
  | some c => run cx apps dsts l id' (mkE d c e) h ((1,b) :: fs) K
def stW (k : Option Nat) (b : Nat) (o : Option (List C × C)) : Prop := match o with
  | none => False
  | some r => runD cx apps dsts l id' ⟨put d r.2 (killS k (A e)),h.set b (some r.1)⟩ ((2,b) :: fs) K
def stX (b off : Nat) (o : Option (List C)) : Prop := match o with
  | none => False
  | some cells => match cells[off]? with
    | none => False
    | some x => run cx apps dsts l id' (mkE d x e) (h.set b (some (cells.set off x.noR))) ((3,b) :: fs) K
def stC (o : Option (C × Hp)) : Prop := match o with
  | none => False
  | some r => run cx apps dsts l id' (mkE d r.1 e) r.2 ((4,0) :: fs) K
def stN (cells : List C) (g : Nat → C) (o : Option (Option (List C))) : Prop := match o with
  | some none => run cx apps dsts l id' (mkE d (g id) e) (h.set id (some cells)) ((2,id) :: fs) K
  | _ => False
theorem stV_vp (c : C) : stV cx apps dsts l id id' d e h fs K (some (vp c)) = run cx apps dsts l id' (mkE d c e) h ((0,0) :: fs) K := by
  show runD _ _ _ _ _ ⟨put d c (killS none (A e)),h⟩ _ _ = _
  rw [killS_none,A_mkE]; rfl
theorem stV_val0 (c : C) : stV cx apps dsts l id id' d e h fs K (some (.val c none)) = run cx apps dsts l id' (mkE d c e) h ((0,0) :: fs) K := stV_vp ..
theorem stV_valk (c : C) (k : Nat) : stV cx apps dsts l id id' d e h fs K (some (.val c (some k))) = run cx apps dsts l id' (mkE d c ((k,(A e k).noR) :: e)) h ((0,0) :: fs) K := by
  show runD _ _ _ _ _ ⟨put d c (killS (some k) (A e)),h⟩ _ _ = _
  rw [killS_A,A_mkE]; rfl
theorem stV_rd (b : Nat) (f : List C → Option C) : stV cx apps dsts l id id' d e h fs K (some (.rd b f)) = stR cx apps dsts l id' d e h fs K b ((h.at b).bind f) := by
  unfold stV stR act1D
  simp only [actH]
  cases (h.at b).bind f with
  | none => rfl
  | some c =>
    simp only [Option.map_some,killS_none,A_mkE]; rfl
theorem stV_wr (b : Nat) (f : List C → Option (List C × C)) (k : Option Nat) : stV cx apps dsts l id id' d e h fs K (some (.wr b f k)) = stW cx apps dsts l id' d e h fs K k b ((h.at b).bind f) := by
  unfold stV stW act1D
  simp only [actH]
  cases (h.at b).bind f with
  | none => rfl
  | some c => simp only [Option.map_some]; rfl
theorem stV_xr (b off : Nat) : stV cx apps dsts l id id' d e h fs K (some (.xr b off)) = stX cx apps dsts l id' d e h fs K b off (h.at b) := by
  unfold stV stX act1D
  simp only [actH]
  cases h.at b with
  | none => rfl
  | some cells =>
    simp only [Option.bind_some]
    cases cells[off]? with
    | none => rfl
    | some x => simp only [Option.map_some,killS_none,A_mkE]; rfl
theorem stV_new (cells : List C) (g : Nat → C) : stV cx apps dsts l id id' d e h fs K (some (.new cells g)) = stN cx apps dsts l id id' d e h fs K cells g (h[id]?) := by
  unfold stV stN act1D
  simp only [actH]
  cases h[id]? with
  | none => rfl
  | some o => cases o with
    | none => simp only [killS_none,A_mkE]; rfl
    | some o => rfl
theorem stV_call (f : Nat) (az : List C) : stV cx apps dsts l id id' d e h fs K (some (.call f az)) = stC cx apps dsts l id' d e fs K (cx.hp f az h) := by
  unfold stV stC act1D
  simp only [actH]
  cases cx.hp f az h with
  | none => rfl
  | some c => simp only [Option.map_some,killS_none,A_mkE]; rfl
def apFP (o : Option (List C)) (h : Hp) : FP := if o.isSome = true then (5,h.length) else (4,0)
def stA (z : FP) (b : Option (Nat × Nat)) (s : Nat × Nat) (m : Nat) (o : Option (List C)) : Prop := match o with
  | none => False
  | some cs => match b with
    | none => run cx apps dsts l id' (mkE d (.gv h.length m s) e) (h ++ [some (cs.map C.noR)]) (z :: fs) K
    | some (b,n) => match h.at b with
      | none => False
      | some cells =>
        if (n + m) * s.1 ≤ cells.length ∧ (n ≠ 0 ∨ m = 0) then run cx apps dsts l id' (mkE d (.gv b (n + m) s) e) (h.set b (some (splice cells (n * s.1) (cs.map C.noR)))) ((4,0) :: fs) K
        else if n * s.1 = cells.length then run cx apps dsts l id' (mkE d (.gv h.length (n + m) s) e) (h.set b (some deadC) ++ [some ((cells ++ cs).map C.noR)]) ((4,0) :: fs) K
        else if n = 0 then run cx apps dsts l id' (mkE d (.gv h.length (n + m) s) e) (h.set b (some deadC) ++ [some (cs.map C.noR)]) ((4,0) :: fs) K else False
theorem stV_ap (b : Option (Nat × Nat)) (s : Nat × Nat) (m : Nat) (ys : Hp → Option (List C)) : stV cx apps dsts l id id' d e h fs K (some (.ap b s m ys)) = stA cx apps dsts l id' d e h fs K (apFP (ys []) h) b s m (ys h) := by
  unfold stV stA act1D
  simp only [actH]
  cases ys h with
  | none => rfl
  | some cs =>
    simp only [Option.bind_some]
    cases b with
    | none => simp only [killS_none,A_mkE]; rfl
    | some q =>
      obtain ⟨b,n⟩ := q
      simp only []
      cases h.at b with
      | none => rfl
      | some cells =>
        simp only [Option.bind_some]
        by_cases h1 : (n + m) * s.1 ≤ cells.length ∧ (n ≠ 0 ∨ m = 0)
        · rw [if_pos h1,if_pos h1]; simp only [killS_none,A_mkE]; rfl
        · rw [if_neg h1,if_neg h1]
          by_cases h2 : n * s.1 = cells.length
          · rw [if_pos h2,if_pos h2]; simp only [killS_none,A_mkE]; rfl
          · rw [if_neg h2,if_neg h2]
            by_cases h3 : n = 0
            · rw [if_pos h3,if_pos h3]; simp only [killS_none,A_mkE]; rfl
            · rw [if_neg h3,if_neg h3]
theorem stR_some (b : Nat) (c : C) : stR cx apps dsts l id' d e h fs K b (some c) = run cx apps dsts l id' (mkE d c e) h ((1,b) :: fs) K := rfl
theorem stW_some0 (b : Nat) (cells : List C) (c : C) : stW cx apps dsts l id' d e h fs K none b (some (cells,c)) = run cx apps dsts l id' (mkE d c e) (h.set b (some cells)) ((2,b) :: fs) K := by
  show runD _ _ _ _ _ ⟨put d c (killS none (A e)),_⟩ _ _ = _
  rw [killS_none,A_mkE]; rfl
theorem stW_somek (k b : Nat) (cells : List C) (c : C) : stW cx apps dsts l id' d e h fs K (some k) b (some (cells,c)) = run cx apps dsts l id' (mkE d c ((k,(A e k).noR) :: e)) (h.set b (some cells)) ((2,b) :: fs) K := by
  show runD _ _ _ _ _ ⟨put d c (killS (some k) (A e)),_⟩ _ _ = _
  rw [killS_A,A_mkE]; rfl
theorem stC_some (c : C) (h' : Hp) : stC cx apps dsts l id' d e fs K (some (c,h')) = run cx apps dsts l id' (mkE d c e) h' ((4,0) :: fs) K := rfl
theorem stN_some (cells : List C) (g : Nat → C) : stN cx apps dsts l id id' d e h fs K cells g (some none) = run cx apps dsts l id' (mkE d (g id) e) (h.set id (some cells)) ((2,id) :: fs) K := rfl
theorem run_nil : run cx apps dsts [] id e h fs K = K fs ⟨A e,h⟩ := rfl
end
@[congr] theorem stV_congr {cx : Cx} {apps : List Nat} {dsts : List (Option Nat)} {l : List Oper} {id id' : Nat} {d : Option Nat} {e : List (Nat × C)} {h : Hp} {fs : List FP} {K : List FP → St → Prop} {p p' : Option Plan} (hp : p = p') :
    stV cx apps dsts l id id' d e h fs K p = stV cx apps dsts l id id' d e h fs K p' := by rw [hp]
@[congr] theorem stR_congr {cx : Cx} {apps : List Nat} {dsts : List (Option Nat)} {l : List Oper} {id' : Nat} {d : Option Nat} {e : List (Nat × C)} {h : Hp} {fs : List FP} {K : List FP → St → Prop} {b : Nat} {p p' : Option C} (hp : p = p') :
    stR cx apps dsts l id' d e h fs K b p = stR cx apps dsts l id' d e h fs K b p' := by rw [hp]
@[congr] theorem stW_congr {cx : Cx} {apps : List Nat} {dsts : List (Option Nat)} {l : List Oper} {id' : Nat} {d : Option Nat} {e : List (Nat × C)} {h : Hp} {fs : List FP} {K : List FP → St → Prop} {k : Option Nat} {b : Nat} {p p' : Option (List C × C)} (hp : p = p') :
    stW cx apps dsts l id' d e h fs K k b p = stW cx apps dsts l id' d e h fs K k b p' := by rw [hp]
@[congr] theorem stX_congr {cx : Cx} {apps : List Nat} {dsts : List (Option Nat)} {l : List Oper} {id' : Nat} {d : Option Nat} {e : List (Nat × C)} {h : Hp} {fs : List FP} {K : List FP → St → Prop} {b off : Nat} {p p' : Option (List C)} (hp : p = p') :
    stX cx apps dsts l id' d e h fs K b off p = stX cx apps dsts l id' d e h fs K b off p' := by rw [hp]
@[congr] theorem stC_congr {cx : Cx} {apps : List Nat} {dsts : List (Option Nat)} {l : List Oper} {id' : Nat} {d : Option Nat} {e : List (Nat × C)} {fs : List FP} {K : List FP → St → Prop} {p p' : Option (C × Hp)} (hp : p = p') :
    stC cx apps dsts l id' d e fs K p = stC cx apps dsts l id' d e fs K p' := by rw [hp]
@[congr] theorem stN_congr {cx : Cx} {apps : List Nat} {dsts : List (Option Nat)} {l : List Oper} {id id' : Nat} {d : Option Nat} {e : List (Nat × C)} {h : Hp} {fs : List FP} {K : List FP → St → Prop} {cells : List C} {g : Nat → C} {p p' : Option (Option (List C))} (hp : p = p') :
    stN cx apps dsts l id id' d e h fs K cells g p = stN cx apps dsts l id id' d e h fs K cells g p' := by rw [hp]
@[congr] theorem run_congr {cx : Cx} {apps : List Nat} {dsts : List (Option Nat)} {l : List Oper} {id id' : Nat} {e : List (Nat × C)} {h h' : Hp} {fs : List FP} {K : List FP → St → Prop} (hi : id = id') (hh : h = h') :
    run cx apps dsts l id e h fs K = run cx apps dsts l id' e h' fs K := by rw [hh,hi]
theorem run_mkS (cx : Cx) (apps : List Nat) (dsts : List (Option Nat)) (l : List Oper) (id d : Nat) (c : C) (e : List (Nat × C)) (h : Hp) (fs : List FP) (K : List FP → St → Prop) :
    run cx apps dsts l id (mkE (some d) c e) h fs K = run cx apps dsts l id ((d,c) :: e) h fs K := rfl
theorem run_mkN (cx : Cx) (apps : List Nat) (dsts : List (Option Nat)) (l : List Oper) (id : Nat) (c : C) (e : List (Nat × C)) (h : Hp) (fs : List FP) (K : List FP → St → Prop) :
    run cx apps dsts l id (mkE none c e) h fs K = run cx apps dsts l id e h fs K := rfl
end Go.Sx
namespace Go.Sx
open Go.RowKit
theorem runE_of_run {cx : Cx} {apps : List Nat} {dsts : List (Option Nat)} {K : St → Prop} : ∀ (l : List Oper) (id : Nat) (st : St) (fs : List FP),runD cx apps dsts l id st fs (fun _ s => K s) → runE cx apps dsts l id st K
  | [],_,_,_,h => h
  | o :: l,id,st,fs,h => by
    simp only [runD,runE] at h ⊢
    refine ⟨h.1,?_⟩
    have h2 := h.2
    cases hw : wantedA dsts o.guard st.env with
    | none => rw [hw] at h2; exact h2
    | some b =>
      rw [hw] at h2
      cases b with
      | false => exact runE_of_run l _ _ _ h2
      | true =>
        simp only [act1,act1D] at h2 ⊢
        generalize splanA cx apps o st.env = q at h2 ⊢
        cases q with
        | none => exact h2
        | some p =>
          simp only [] at h2 ⊢
          generalize actH cx id p st.h = r at h2 ⊢
          cases r with
          | none => exact h2
          | some r => exact runE_of_run l _ _ _ h2
section
variable {cx : Cx} {n : Nat} {Q : Ex → St → Prop} {e : List (Nat × C)} {h : Hp}
theorem Tr.rg (hcx : CxOK cx) {id : Nat} {l : List Oper} (apps : List Nat) (dsts : List (Option Nat)) (z : Hp) (h1 : l.filterMap appOf = apps) (h2 : l.map (·.dst) = dsts) (h3 : nones l = z)
    (H : run cx apps dsts l h.length e (h ++ z) [] (fun _ s => Q .normal s)) : Tr cx n (.region id l.toArray false) ⟨A e,h⟩ Q := by
  subst h1 h2 h3
  exact Tr.reg hcx (runE_of_run _ _ _ _ H)
theorem Tr.rgD (hcx : CxOK cx) (hm : cx.P.follows .mixedOrders = true) {id : Nat} {l : List Oper} (apps : List Nat) (dsts : List (Option Nat)) (z : Hp) (h1 : l.filterMap appOf = apps) (h2 : l.map (·.dst) = dsts) (h3 : nones l = z)
    (hs : regStatic l.toArray = true)
    (H : run cx apps dsts l h.length e (h ++ z) [] (fun fs s => confsOK l.toArray fs.reverse = true ∧ Q .normal s)) : Tr cx n (.region id l.toArray true) ⟨A e,h⟩ Q := by
  subst h1 h2 h3
  exact Tr.regD hcx hm hs H
end
section
variable (cx : Cx) (apps : List Nat) (dsts : List (Option Nat)) (l : List Oper) (id id' : Nat) (d : Option Nat) (e : List (Nat × C)) (h : Hp) (fs : List FP) (K : List FP → St → Prop) (ty : TypeId) (pos : String) (aft : Array Edge)
theorem run_gen (op : Op) (p : Option Plan) (hp : splanA cx apps ⟨d,op,ty,pos,aft,none⟩ (A e) = p) (hm : (if makes ⟨d,op,ty,pos,aft,none⟩ then id + 1 else id) = id') :
    run cx apps dsts (⟨d,op,ty,pos,aft,none⟩ :: l) id e h fs K = AN (dOK cx.N d) (stV cx apps dsts l id id' d e h fs K p) := by
  unfold run AN
  rw [runD]
  simp only [wantedA]
  rw [hp,hm,dOK_iff]
  rfl
def stG (op : Op) (o : Option Bool) : Prop := match o with
  | none => False
  | some b => (b = true → run cx apps dsts (⟨d,op,ty,pos,aft,none⟩ :: l) id e h fs K) ∧
      (b = false → AN (dOK cx.N d) (run cx apps dsts l (if makes ⟨d,op,ty,pos,aft,none⟩ then id + 1 else id) (mkE d (.val undef) e) h ((0,0) :: fs) K))
theorem run_guard (op : Op) (g : Nat × Bool) : run cx apps dsts (⟨d,op,ty,pos,aft,some g⟩ :: l) id e h fs K = stG cx apps dsts l id d e h fs K ty pos aft op (wantedA dsts (some g) (A e)) := by
  unfold run stG
  rw [runD]
  simp only []
  have hsp : splanA cx apps ⟨d,op,ty,pos,aft,some g⟩ (A e) = splanA cx apps ⟨d,op,ty,pos,aft,none⟩ (A e) := by
    rw [splanA.eq_def,splanA.eq_def]
    cases op with
    | move x => cases x <;> rfl
    | _ => rfl
  have hmk : makes ⟨d,op,ty,pos,aft,some g⟩ = makes ⟨d,op,ty,pos,aft,none⟩ := rfl
  cases hw : wantedA dsts (some g) (A e) with
  | none => simp
  | some b =>
    cases b with
    | true =>
      simp only [Bool.true_eq_false,false_implies,and_true,true_implies]
      rw [run,runD,hsp,hmk]
      simp only [wantedA]
    | false =>
      simp only [Bool.false_eq_true,false_implies,true_and,true_implies]
      rw [AN,dOK_iff,A_mkE]
      rfl
def bump (op : Op) (id : Nat) : Nat := match op with
  | .alloc _ | .box _ _ | .makeSlice _ _ _ => id + 1
  | _ => id
theorem bump_eq (op : Op) : (if makes ⟨d,op,ty,pos,aft,none⟩ then id + 1 else id) = bump op id := by cases op <;> rfl
theorem stG_some (op : Op) (b : Bool) : stG cx apps dsts l id d e h fs K ty pos aft op (some b) = GB b (run cx apps dsts (⟨d,op,ty,pos,aft,none⟩ :: l) id e h fs K)
    (AN (dOK cx.N d) (run cx apps dsts l (bump op id) (mkE d (.val undef) e) h ((0,0) :: fs) K)) := by
  rw [← bump_eq (d := d) (ty := ty) (pos := pos) (aft := aft)]; rfl
theorem bump_move (x : Operand) (id : Nat) : bump (.move x) id = id := rfl
theorem bump_pick (c a b : Operand) (id : Nat) : bump (.pick c a b) id = id := rfl
theorem bump_load (t : TypeId) (a : Operand) (id : Nat) : bump (.load t a) id = id := rfl
theorem bump_binOp (o : BinOp) (t : TypeId) (x y : Operand) (s : TypeId) (id : Nat) : bump (.binOp o t x y s) id = id := rfl
theorem bump_unOp (o : UnOp) (t : TypeId) (x : Operand) (id : Nat) : bump (.unOp o t x) id = id := rfl
theorem bump_fieldAddr (t : TypeId) (x : Operand) (f : Nat) (id : Nat) : bump (.fieldAddr t x f) id = id := rfl
theorem bump_indexAddr (t : TypeId) (x i : Operand) (id : Nat) : bump (.indexAddr t x i) id = id := rfl
theorem bump_index (t : TypeId) (x i : Operand) (id : Nat) : bump (.index t x i) id = id := rfl
theorem bump_call (c : Call) (id : Nat) : bump (.call c) id = id := rfl
def isG (cx : Cx) (d : Option Nat) : Bool := d.any cx.gr
def gif (b : Bool) (p q : Option Plan) : Option Plan := if b = true then p else q
@[congr] theorem gif_congr {b b' : Bool} {p q : Option Plan} (h : b = b') : gif b p q = gif b' p q := by rw [h]
def sliceP (P : Program) (t : TypeId) (c : C) (lo hi mx : Option C) : Option Plan := match c,lo,mx with
  | .gv b n s,none,none => sliceG P t b n s hi
  | c,_,_ => slicePlan P t c.asSv lo hi mx
def pickP (c a b : C) : Option Plan := match c with
  | .val (.bool true) => some (vp a)
  | .val (.bool false) => some (vp b)
  | _ => none
def allocG (g : Bool) (t : TypeId) (T : Option TD) : Option Plan := match T with
  | some d => if d.zero.all (·.oneCell') then some (.new (d.zero.map .val) fun id => if g = true then .bt id t d.zero.length else .bp id 0) else none
  | none => none
def allocP (t : Option TD) : Option Plan := match t with
  | some d => if d.zero.all (·.oneCell') then some (.new (d.zero.map .val) fun id => .bp id 0) else none
  | none => none
def boxP (x : C) : Option Plan := x.cells?.map fun cs => .new cs fun id => .bp id 0
def buildP (P : Program) (t : Option TD) (parts : List (Nat × C)) : Option Plan := match t with
  | some d => if d.zero.all (·.oneCell') = false then none else ((places P d.u).bind fun pl => lay pl (d.zero.map .val) parts).map fun cs => vp (.agg cs)
  | none => none
def buildSliceP (P : Program) (g : Bool) (t : Option TD) (n : Nat) (parts : List (Nat × C)) : Option Plan := match t with
  | some d => (match d.u with
    | .slice e => (match td P e with
      | some de => if n * de.size ≤ 65536 ∧ n ≤ 65536 ∧ de.zero.length = de.size ∧ de.zero.all (·.oneCell') = true then
          (lay (fun i => some (i * de.size,de.size)) (repZero de.zero n) parts).map fun cs => if g = true then .ap none (de.size,e) n fun _ => some cs else vp (.sl .full n cs) else none
      | none => none)
    | _ => none)
  | none => none
def extractP (x : C) (i : Nat) : Option Plan := match x with
  | .tup xs => (xs[i]?).map fun c => vp c.noR
  | _ => none
def callQ (cx : Cx) (g : Nat) (az : List C) (o : Option C) : Option Plan := match o with
  | some c => some (vp c)
  | none => match refBox az with
    | some b => if (cx.hp g az []).isSome then some (.call g az) else some (.rd b (rdPu cx g az b))
    | none => if cx.gr (1000000 + g) = true then some (.rd 0 (rdE cx g az 0)) else some (.call g az)
def callP (cx : Cx) (f : C) (args : List C) : Option Plan := match f with
  | .fn g caps => callQ cx g (shares args ++ caps) (cx.pu g (shares args ++ caps))
  | _ => none
def mvP (b : Bool) (c : C) (p : Nat) : Option Plan := match b with
  | true => some (.val c (some p))
  | false => some (vp c.noR)
def staP (P : Program) (t : Option TD) (x : C) : Option Plan := match t with
  | some d => (match d.u with
    | .array n e => (match td P e,x with
      | some _,.sv b off m => if n ≤ m ∧ n ≠ 0 then some (vp (.bp b off)) else none
      | some _,.gv b m _ => if n ≤ m ∧ n ≠ 0 then some (vp (.bp b 0)) else none
      | some de,c => (match c.sl? with
        | some (m,xs) => if n ≤ m ∧ xs ≠ [] ∧ xs.length = m * de.size then some (vp (.kp xs)) else none
        | none => none)
      | _,_ => none)
    | _ => none)
  | none => none
def mksP (P : Program) (t : Option TD) (l c : C) : Option Plan := match t,l.int?,c.int? with
  | some d,some (_,n),some (_,m) => (match d.u with
    | .slice e => (match td P e with
      | some de => if 0 ≤ n ∧ n = m ∧ de.bytes * n ≤ 140737488355328 ∧ n ≤ 9223372036854775807 ∧ de.zero.length = de.size ∧ de.zero.all (·.oneCell') = true then some (.new (repZero de.zero n.toNat) fun id => .sv id 0 n.toNat) else none
      | none => none)
    | _ => none)
  | _,_,_ => none
def mksG (P : Program) (g : Bool) (t : Option TD) (l c : C) : Option Plan := match t,l.int?,c.int? with
  | some d,some (_,n),some (_,m) => (match d.u with
    | .slice e => (match td P e with
      | some de => if 0 ≤ n ∧ n = m ∧ de.bytes * n ≤ 140737488355328 ∧ n ≤ 9223372036854775807 ∧ de.zero.length = de.size ∧ de.zero.all (·.oneCell') = true then some (.new (repZero de.zero n.toNat) fun id => if g = true then .gv id n.toNat (de.size,e) else .sv id 0 n.toNat) else none
      | none => none)
    | _ => none)
  | _,_,_ => none
theorem run_mvt (p : Nat) : run cx apps dsts (⟨d,.move (.tmp p),ty,pos,aft,none⟩ :: l) id e h fs K = AN (dOK cx.N d) (stV cx apps dsts l id id d e h fs K (mvP (isA apps d || isA apps (d.map (· + 1000000))) (A e p) p)) :=
  run_gen cx apps dsts l id id d e h fs K ty pos aft (.move (.tmp p)) (mvP (isA apps d || isA apps (d.map (· + 1000000))) (A e p) p) (by
    rw [splanA.eq_def]; simp only []
    cases d with
    | none => rfl
    | some t =>
      simp only [isA,mvP,vp,Plan.pure,Option.map_some,List.contains_eq_mem]
      by_cases hb : t ∈ apps <;> by_cases hc : t + 1000000 ∈ apps <;> simp [hb,hc]) rfl
theorem run_mvc (v : Value) : run cx apps dsts (⟨d,.move (.const v),ty,pos,aft,none⟩ :: l) id e h fs K = AN (dOK cx.N d) (stV cx apps dsts l id id d e h fs K (some (vp (.val v)))) :=
  run_gen cx apps dsts l id id d e h fs K ty pos aft (.move (.const v)) (some (vp (.val v))) (by first | rfl | (cases d <;> rfl)) rfl
theorem run_asg (x : Operand) : run cx apps dsts (⟨d,.assign x,ty,pos,aft,none⟩ :: l) id e h fs K = AN (dOK cx.N d) (stV cx apps dsts l id id d e h fs K (some (.val (orw cx e x) (tmp? x)))) :=
  run_gen cx apps dsts l id id d e h fs K ty pos aft (.assign x) (some (.val (orw cx e x) (tmp? x))) (by first | rfl | (cases d <;> rfl)) rfl
theorem run_pick (c a b : Operand) : run cx apps dsts (⟨d,.pick c a b,ty,pos,aft,none⟩ :: l) id e h fs K = AN (dOK cx.N d) (stV cx apps dsts l id id d e h fs K (pickP (on cx e c) (on cx e a) (on cx e b))) :=
  run_gen cx apps dsts l id id d e h fs K ty pos aft (.pick c a b) (pickP (on cx e c) (on cx e a) (on cx e b)) (by first | rfl | (cases d <;> rfl)) rfl
theorem run_alloc (t : TypeId) : run cx apps dsts (⟨d,.alloc t,ty,pos,aft,none⟩ :: l) id e h fs K = AN (dOK cx.N d) (stV cx apps dsts l id (id + 1) d e h fs K (allocG (isG cx d) t (td cx.P t))) :=
  run_gen cx apps dsts l id (id + 1) d e h fs K ty pos aft (.alloc t) (allocG (isG cx d) t (td cx.P t)) (by first | rfl | (cases d <;> rfl)) rfl
theorem run_box (t : TypeId) (x : Operand) : run cx apps dsts (⟨d,.box t x,ty,pos,aft,none⟩ :: l) id e h fs K = AN (dOK cx.N d) (stV cx apps dsts l id (id + 1) d e h fs K (boxP (on cx e x))) :=
  run_gen cx apps dsts l id (id + 1) d e h fs K ty pos aft (.box t x) (boxP (on cx e x)) (by first | rfl | (cases d <;> rfl)) rfl
theorem run_build (t : TypeId) (ps : List (Nat × Operand)) : run cx apps dsts (⟨d,.build t ps.toArray,ty,pos,aft,none⟩ :: l) id e h fs K = AN (dOK cx.N d) (stV cx apps dsts l id id d e h fs K (buildP cx.P (td cx.P t) (onP cx e ps))) :=
  run_gen cx apps dsts l id id d e h fs K ty pos aft (.build t ps.toArray) (buildP cx.P (td cx.P t) (onP cx e ps)) (by rw [← onP_eq]; rfl) rfl
theorem run_buildS (t : TypeId) (m : Nat) (ps : List (Nat × Operand)) : run cx apps dsts (⟨d,.buildSlice t m ps.toArray,ty,pos,aft,none⟩ :: l) id e h fs K = AN (dOK cx.N d) (stV cx apps dsts l id id d e h fs K (buildSliceP cx.P (isG cx d) (td cx.P t) m (onP cx e ps))) :=
  run_gen cx apps dsts l id id d e h fs K ty pos aft (.buildSlice t m ps.toArray) (buildSliceP cx.P (isG cx d) (td cx.P t) m (onP cx e ps)) (by rw [← onP_eq]; rfl) rfl
theorem run_load (t : TypeId) (x : Operand) : run cx apps dsts (⟨d,.load t x,ty,pos,aft,none⟩ :: l) id e h fs K = AN (dOK cx.N d) (stV cx apps dsts l id id d e h fs K (loadPlan cx.P (isA apps d) t (on cx e x))) :=
  run_gen cx apps dsts l id id d e h fs K ty pos aft (.load t x) (loadPlan cx.P (isA apps d) t (on cx e x)) (by first | rfl | (cases d <;> rfl)) rfl
theorem run_store (t : TypeId) (x y : Operand) : run cx apps dsts (⟨d,.store t x y,ty,pos,aft,none⟩ :: l) id e h fs K = AN (dOK cx.N d) (stV cx apps dsts l id id d e h fs K (storePlan cx.P t (on cx e x) (orw cx e y) (tmp? y))) :=
  run_gen cx apps dsts l id id d e h fs K ty pos aft (.store t x y) (storePlan cx.P t (on cx e x) (orw cx e y) (tmp? y)) (by first | rfl | (cases d <;> rfl)) rfl
theorem run_bin (o : BinOp) (t t2 : TypeId) (x y : Operand) : run cx apps dsts (⟨d,.binOp o t x y t2,ty,pos,aft,none⟩ :: l) id e h fs K = AN (dOK cx.N d) (stV cx apps dsts l id id d e h fs K (binPlan cx.P o t (on cx e x) (on cx e y))) :=
  run_gen cx apps dsts l id id d e h fs K ty pos aft (.binOp o t x y t2) (binPlan cx.P o t (on cx e x) (on cx e y)) (by first | rfl | (cases d <;> rfl)) rfl
theorem run_un (o : UnOp) (t : TypeId) (x : Operand) : run cx apps dsts (⟨d,.unOp o t x,ty,pos,aft,none⟩ :: l) id e h fs K = AN (dOK cx.N d) (stV cx apps dsts l id id d e h fs K (unPlan o (on cx e x))) :=
  run_gen cx apps dsts l id id d e h fs K ty pos aft (.unOp o t x) (unPlan o (on cx e x)) (by first | rfl | (cases d <;> rfl)) rfl
theorem run_conv (s t : TypeId) (x : Operand) : run cx apps dsts (⟨d,.convert s t x,ty,pos,aft,none⟩ :: l) id e h fs K = AN (dOK cx.N d) (stV cx apps dsts l id id d e h fs K (gif (isG cx d) (convG cx.P s t (on cx e x)) (convPlan cx.P s t (on cx e x).asSv))) :=
  run_gen cx apps dsts l id id d e h fs K ty pos aft (.convert s t x) (gif (isG cx d) (convG cx.P s t (on cx e x)) (convPlan cx.P s t (on cx e x).asSv)) (by first | rfl | (cases d <;> rfl)) rfl
theorem run_mkf (f : Nat) (cs : List Operand) : run cx apps dsts (⟨d,.makeFunc (.func f) #[] cs.toArray,ty,pos,aft,none⟩ :: l) id e h fs K = AN (dOK cx.N d) (stV cx apps dsts l id id d e h fs K (some (vp (.fn f (shares (onM cx e cs)))))) :=
  run_gen cx apps dsts l id id d e h fs K ty pos aft (.makeFunc (.func f) #[] cs.toArray) (some (vp (.fn f (shares (onM cx e cs))))) (by rw [← onM_eq,← shares_eq,List.map_map]; rfl) rfl
theorem run_mks (t : TypeId) (x y : Operand) : run cx apps dsts (⟨d,.makeSlice t x y,ty,pos,aft,none⟩ :: l) id e h fs K = AN (dOK cx.N d) (stV cx apps dsts l id (id + 1) d e h fs K (mksG cx.P (isG cx d) (td cx.P t) (on cx e x) (on cx e y))) :=
  run_gen cx apps dsts l id (id + 1) d e h fs K ty pos aft (.makeSlice t x y) (mksG cx.P (isG cx d) (td cx.P t) (on cx e x) (on cx e y)) (by first | rfl | (cases d <;> rfl)) rfl
theorem run_slice (t : TypeId) (x : Operand) (lo hi mx : Option Operand) : run cx apps dsts (⟨d,.slice t x lo hi mx,ty,pos,aft,none⟩ :: l) id e h fs K = AN (dOK cx.N d) (stV cx apps dsts l id id d e h fs K (sliceP cx.P t (on cx e x) (lo.map (on cx e)) (hi.map (on cx e)) (mx.map (on cx e)))) :=
  run_gen cx apps dsts l id id d e h fs K ty pos aft (.slice t x lo hi mx) (sliceP cx.P t (on cx e x) (lo.map (on cx e)) (hi.map (on cx e)) (mx.map (on cx e))) (by rw [splanA.eq_def]; simp only []; rw [splan.eq_def]; simp only []; unfold sliceP; change (match on cx e x,lo,mx with | .gv b n s,none,none => sliceG cx.P t b n s (hi.map (on cx e)) | c,_,_ => slicePlan cx.P t c.asSv (lo.map (on cx e)) (hi.map (on cx e)) (mx.map (on cx e))) = _; cases on cx e x <;> cases lo <;> cases mx <;> rfl) rfl
theorem run_fa (t : TypeId) (x : Operand) (f : Nat) : run cx apps dsts (⟨d,.fieldAddr t x f,ty,pos,aft,none⟩ :: l) id e h fs K = AN (dOK cx.N d) (stV cx apps dsts l id id d e h fs K (fieldAddrPlan cx.P t (on cx e x) f)) :=
  run_gen cx apps dsts l id id d e h fs K ty pos aft (.fieldAddr t x f) (fieldAddrPlan cx.P t (on cx e x) f) (by first | rfl | (cases d <;> rfl)) rfl
theorem run_ixa (t : TypeId) (x i : Operand) : run cx apps dsts (⟨d,.indexAddr t x i,ty,pos,aft,none⟩ :: l) id e h fs K = AN (dOK cx.N d) (stV cx apps dsts l id id d e h fs K (indexAddrPlan cx.P t (on cx e x).asSv (on cx e i))) :=
  run_gen cx apps dsts l id id d e h fs K ty pos aft (.indexAddr t x i) (indexAddrPlan cx.P t (on cx e x).asSv (on cx e i)) (by first | rfl | (cases d <;> rfl)) rfl
theorem run_ix (t : TypeId) (x i : Operand) : run cx apps dsts (⟨d,.index t x i,ty,pos,aft,none⟩ :: l) id e h fs K = AN (dOK cx.N d) (stV cx apps dsts l id id d e h fs K (indexPlan cx.P t (on cx e x) (on cx e i))) :=
  run_gen cx apps dsts l id id d e h fs K ty pos aft (.index t x i) (indexPlan cx.P t (on cx e x) (on cx e i)) (by first | rfl | (cases d <;> rfl)) rfl
theorem run_extr (x : Operand) (i : Nat) : run cx apps dsts (⟨d,.extract x i,ty,pos,aft,none⟩ :: l) id e h fs K = AN (dOK cx.N d) (stV cx apps dsts l id id d e h fs K (extractP (on cx e x) i)) :=
  run_gen cx apps dsts l id id d e h fs K ty pos aft (.extract x i) (extractP (on cx e x) i) (by first | rfl | (cases d <;> rfl)) rfl
theorem run_len (t : TypeId) (x : Operand) : run cx apps dsts (⟨d,.call ⟨.builtin .len,#[x],#[t]⟩,ty,pos,aft,none⟩ :: l) id e h fs K = AN (dOK cx.N d) (stV cx apps dsts l id id d e h fs K (lenPlan cx.P t (on cx e x).asSv)) :=
  run_gen cx apps dsts l id id d e h fs K ty pos aft (.call ⟨.builtin .len,#[x],#[t]⟩) (lenPlan cx.P t (on cx e x).asSv) (by first | rfl | (cases d <;> rfl)) rfl
theorem run_app (t t2 : TypeId) (x y : Operand) : run cx apps dsts (⟨d,.call ⟨.builtin .append,#[x,y],#[t,t2]⟩,ty,pos,aft,none⟩ :: l) id e h fs K = AN (dOK cx.N d) (stV cx apps dsts l id id d e h fs K (gif (isG cx d) (growPlan cx.P t t2 (on cx e x) (on cx e y).asSv) (appendPlan cx.P t t2 (orw cx e x) (on cx e y).asSv (tmp? x)))) :=
  run_gen cx apps dsts l id id d e h fs K ty pos aft (.call ⟨.builtin .append,#[x,y],#[t,t2]⟩) (gif (isG cx d) (growPlan cx.P t t2 (on cx e x) (on cx e y).asSv) (appendPlan cx.P t t2 (orw cx e x) (on cx e y).asSv (tmp? x))) (by first | rfl | (cases d <;> rfl)) rfl
theorem run_max (ts : Array TypeId) (x y : Operand) : run cx apps dsts (⟨d,.call ⟨.builtin .max,#[x,y],ts⟩,ty,pos,aft,none⟩ :: l) id e h fs K = AN (dOK cx.N d) (stV cx apps dsts l id id d e h fs K (minMax true (on cx e x) (on cx e y))) :=
  run_gen cx apps dsts l id id d e h fs K ty pos aft (.call ⟨.builtin .max,#[x,y],ts⟩) (minMax true (on cx e x) (on cx e y)) (by first | rfl | (cases d <;> rfl)) rfl
theorem run_call (ts : Array TypeId) (f : Operand) (xs : List Operand) : run cx apps dsts (⟨d,.call ⟨.value f,xs.toArray,ts⟩,ty,pos,aft,none⟩ :: l) id e h fs K = AN (dOK cx.N d) (stV cx apps dsts l id id d e h fs K (callP cx (on cx e f) (onM cx e xs))) :=
  run_gen cx apps dsts l id id d e h fs K ty pos aft (.call ⟨.value f,xs.toArray,ts⟩) (callP cx (on cx e f) (onM cx e xs)) (by rw [splanA.eq_def]; simp only []; rw [splan.eq_def]; simp only []; rw [onM_eq]; show callPlan cx (on cx e f) _ = _; unfold callPlan callP; cases on cx e f <;> first | rfl | (simp only [shares_eq]; rfl)) rfl
end
end Go.Sx
namespace Go.Sx
open Go.RowKit
def w32 (x : BitVec 32) : Value := .int .u32 x.toNat
def w8 (x : UInt8) : Value := .int .u8 x.toNat
def nI (n : Nat) : Value := .int .i64 n
def nU (n : Nat) : Value := .int .u64 n
def str (l : List UInt8) : Value := .string ⟨l.toArray⟩
theorem str_mk (l : List UInt8) : Value.string ⟨l.toArray⟩ = str l := rfl
theorem str_inj {l l' : List UInt8} : str l = str l' ↔ l = l' := by
  constructor
  · intro h
    simp only [str,Value.string.injEq,ByteArray.mk.injEq] at h
    simpa using congrArg Array.toList h
  · rintro rfl; rfl
theorem w8_inj {a b : UInt8} : w8 a = w8 b ↔ a = b := by
  simp only [w8,Value.int.injEq,true_and]
  constructor
  · intro h; exact UInt8.toNat_inj.1 (by omega)
  · rintro rfl; rfl
theorem w32_inj {a b : BitVec 32} : w32 a = w32 b ↔ a = b := by
  simp only [w32,Value.int.injEq,true_and]
  constructor
  · intro h; exact BitVec.eq_of_toNat_eq (by omega)
  · rintro rfl; rfl
theorem nI_inj {a b : Nat} : nI a = nI b ↔ a = b := by simp only [nI,Value.int.injEq,true_and]; omega
theorem nU_inj {a b : Nat} : nU a = nU b ↔ a = b := by simp only [nU,Value.int.injEq,true_and]; omega
def cl {α : Type} (f : α → List C) (l : List α) : List C := l.flatMap f
def sl {α : Type} (f : α → List C) (r : Rt) (l : List α) : C := .sl r l.length (cl f l)
class Cel {α : Type} (f : α → List C) (s : outParam Nat) : Prop where
  len : ∀ a,(f a).length = s
  clean : ∀ a,(f a).map C.noR = f a
  pos : 0 < s
  live : ∀ a r,liveC (some (f a ++ r)) = some (f a ++ r)
class Sca {α : Type} (f : α → List C) (g : outParam (α → C)) : Prop where
  one : ∀ a,f a = [g a]
  clean : ∀ a,(g a).noR = g a
  cells : ∀ a,(g a).cells? = some [g a]
  live : ∀ a r,liveC (some (g a :: r)) = some (g a :: r)
def bC (b : UInt8) : List C := [.val (w8 b)]
def wC (b : BitVec 32) : List C := [.val (w32 b)]
def sC (b : List UInt8) : List C := [.val (str b)]
def iC (b : Int) : List C := [.val (.int .i64 b)]
def nC (b : Nat) : List C := [.val (nI b)]
def oC (b : Bool) : List C := [.val (.bool b)]
instance : Sca bC (fun b => .val (w8 b)) := ⟨fun _ => rfl,fun _ => rfl,fun _ => rfl,fun _ _ => rfl⟩
instance : Sca wC (fun b => .val (w32 b)) := ⟨fun _ => rfl,fun _ => rfl,fun _ => rfl,fun _ _ => rfl⟩
instance : Sca sC (fun b => .val (str b)) := ⟨fun _ => rfl,fun _ => rfl,fun _ => rfl,fun _ _ => rfl⟩
instance : Sca iC (fun b => .val (.int .i64 b)) := ⟨fun _ => rfl,fun _ => rfl,fun _ => rfl,fun _ _ => rfl⟩
instance : Sca nC (fun b => .val (nI b)) := ⟨fun _ => rfl,fun _ => rfl,fun _ => rfl,fun _ _ => rfl⟩
instance : Sca oC (fun b => .val (.bool b)) := ⟨fun _ => rfl,fun _ => rfl,fun _ => rfl,fun _ _ => rfl⟩
instance {α : Type} {f : α → List C} {g : α → C} [h : Sca f g] : Cel f 1 := ⟨fun a => by rw [h.one]; rfl,fun a => by rw [h.one]; simp [h.clean],by decide,fun a r => by rw [h.one]; exact h.live a r⟩
theorem cl_bytes (l : List UInt8) : l.map byteC = cl bC l := by
  unfold cl; induction l with
  | nil => rfl
  | cons a l ih => simp only [List.map_cons,ih,List.flatMap_cons]; rfl
section
variable {α : Type} {f : α → List C} {s : Nat} [hf : Cel f s]
omit hf in
theorem cl_nil : cl f [] = [] := rfl
omit hf in
theorem cl_cons (a : α) (l : List α) : cl f (a :: l) = f a ++ cl f l := rfl
omit hf in
theorem cl_app (l l' : List α) : cl f (l ++ l') = cl f l ++ cl f l' := by simp [cl]
theorem cl_len : ∀ l : List α,(cl f l).length = l.length * s
  | [] => by simp [cl]
  | a :: l => by rw [cl_cons,List.length_append,hf.len,cl_len l,List.length_cons,Nat.add_mul,Nat.one_mul,Nat.add_comm]
include hf in
theorem cl_noR : ∀ l : List α,(cl f l).map C.noR = cl f l
  | [] => rfl
  | a :: l => by rw [cl_cons,List.map_append,hf.clean,cl_noR l]
theorem cl_drop : ∀ (l : List α) (k : Nat),(cl f l).drop (k * s) = cl f (l.drop k)
  | l,0 => by simp
  | [],k + 1 => by simp [cl]
  | a :: l,k + 1 => by
    have e : (k + 1) * s = s + k * s := by rw [Nat.add_mul,Nat.one_mul,Nat.add_comm]
    have h : ((f a) ++ cl f l).drop s = cl f l := by
      have := List.drop_left (l₁ := f a) (l₂ := cl f l)
      rwa [hf.len] at this
    rw [cl_cons,e,← List.drop_drop,h,List.drop_succ_cons]
    exact cl_drop l k
theorem cl_take : ∀ (l : List α) (k : Nat),(cl f l).take (k * s) = cl f (l.take k)
  | l,0 => by simp [cl]
  | [],k + 1 => by simp [cl]
  | a :: l,k + 1 => by
    have e : (k + 1) * s = s + k * s := by rw [Nat.add_mul,Nat.one_mul,Nat.add_comm]
    rw [cl_cons,e,List.take_append,hf.len,List.take_of_length_le (by rw [hf.len]; omega),List.take_succ_cons,cl_cons,Nat.add_sub_cancel_left,cl_take l k]
theorem cl_set (l : List α) (k : Nat) (a : α) (h : k < l.length) : splice (cl f l) (k * s) (f a) = cl f (l.set k a) := by
  unfold splice
  rw [cl_take,hf.len,← Nat.succ_mul,cl_drop,List.set_eq_take_append_cons_drop,if_pos h,cl_app,cl_cons,List.append_assoc]
theorem cl_at (l : List α) (k : Nat) (a : α) (h : l[k]? = some a) : ((cl f l).drop (k * s)).take s = f a := by
  rw [cl_drop]
  obtain ⟨hk,rfl⟩ := List.getElem?_eq_some_iff.1 h
  rw [List.drop_eq_getElem_cons hk,cl_cons,List.take_append,hf.len,Nat.sub_self,List.take_zero,List.append_nil,List.take_of_length_le (by rw [hf.len]; exact Nat.le_refl _)]
end
section
variable {α : Type} [Inhabited α] {f : α → List C} {g : α → C} [hf : Sca f g]
theorem cl_get (l : List α) (k : Nat) (h : k < l.length) : (cl f l)[k]? = some (g (l.getD k default)) := by
  have hq : l[k]? = some (l.getD k default) := by simp [List.getD,List.getElem?_eq_getElem h]
  have := cl_at (f := f) l k _ hq
  rw [Nat.mul_one,hf.one] at this
  have h2 := congrArg (fun z => z[0]?) this
  simpa [List.getElem?_take,List.getElem?_drop] using h2
end
theorem at_cons0 (x : Option (List C)) (h : Hp) : Hp.at (x :: h) 0 = liveC x := rfl
theorem live_dead : liveC (some deadC) = none := rfl
theorem live_val (v : Value) (r : List C) : liveC (some (.val v :: r)) = some (.val v :: r) := rfl
theorem live_sl (q : Rt) (n : Nat) (xs r : List C) : liveC (some (.sl q n xs :: r)) = some (.sl q n xs :: r) := rfl
theorem live_gv (b o : Nat) (n : Nat × Nat) (r : List C) : liveC (some (.gv b o n :: r)) = some (.gv b o n :: r) := rfl
theorem live_tsl {α : Type} (f : α → List C) (q : Rt) (l : List α) (r : List C) : liveC (some (sl f q l :: r)) = some (sl f q l :: r) := rfl
theorem live_cl {α : Type} (f : α → List C) {s : Nat} [hf : Cel f s] (l : List α) : liveC (some (cl f l)) = some (cl f l) := by
  cases l with
  | nil => rfl
  | cons a l => exact hf.live a _
theorem live_f {α : Type} (f : α → List C) {s : Nat} [hf : Cel f s] (a : α) : liveC (some (f a)) = some (f a) := by
  have := hf.live a []
  simpa using this
theorem live_clL {α : Type} (f : α → List C) {s : Nat} [hf : Cel f s] (l : List α) (r : List C) (h : liveC (some r) = some r) : liveC (some (cl f l ++ r)) = some (cl f l ++ r) := by
  cases l with
  | nil => exact h
  | cons a l => rw [cl_cons,List.append_assoc]; exact hf.live a _
theorem at_consS (x : Option (List C)) (h : Hp) (n : Nat) : Hp.at (x :: h) (n + 1) = Hp.at h n := by simp [Hp.at]
def rdc (cells : List C) (o : Nat) : Option C := (cells[o]?).map C.noR
def rda (cells : List C) (o n : Nat) : Option C := if o + n ≤ cells.length then some (.agg (((cells.drop o).take n).map C.noR)) else none
def wrc (cells : List C) (o : Nat) (cs : List C) : Option (List C × C) := if o + cs.length ≤ cells.length then some (splice cells o cs,.val undef) else none
def wrs (cells : List C) (o : Nat) (c : C) : Option (List C × C) := if o < cells.length then some (cells.set o c,.val undef) else none
theorem rdc_cons0 (c : C) (l : List C) : rdc (c :: l) 0 = some c.noR := rfl
theorem rdc_consS (c : C) (l : List C) (n : Nat) : rdc (c :: l) (n + 1) = rdc l n := by simp [rdc]
theorem rdc_drop (l : List C) (k n : Nat) : rdc (l.drop k) n = rdc l (k + n) := by simp [rdc,List.getElem?_drop]
theorem rdc_cl {α : Type} [Inhabited α] {f : α → List C} {g : α → C} [hf : Sca f g] (l : List α) (k : Nat) (h : k < l.length) : rdc (cl f l) k = some (g (l.getD k default)) := by
  simp only [rdc,cl_get (f := f) l k h,Option.map_some,hf.clean]
theorem wrc_cl {α : Type} {f : α → List C} {g : α → C} [hf : Sca f g] (l : List α) (k : Nat) (a : α) (h : k < l.length) : wrc (cl f l) k [g a] = some (cl f (l.set k a),.val undef) := by
  have := cl_set (f := f) l k a h
  rw [Nat.mul_one,hf.one] at this
  simp only [wrc]
  rw [if_pos (by rw [cl_len (f := f)]; simp; omega),this]
theorem wrs_one (a c : C) : wrs [a] 0 c = some ([c],.val undef) := rfl
end Go.Sx
namespace Go.Sx
open Go.RowKit
theorem wrap_u8 (n : Int) : IntKind.wrap .u8 n = n % 256 := by simp [IntKind.wrap,IntKind.bits,IntKind.signed]
theorem wrap_i64 (n : Int) (h : -9223372036854775808 ≤ n) (h2 : n < 9223372036854775808) : IntKind.wrap .i64 n = n := by
  have e : IntKind.wrap .i64 n = if n % 18446744073709551616 ≥ 9223372036854775808 then n % 18446744073709551616 - 18446744073709551616 else n % 18446744073709551616 := by
    simp [IntKind.wrap,IntKind.bits,IntKind.signed]
  rw [e]
  split <;> omega
theorem lit_w8o (n : Nat) (h : n < 256) : Value.int .u8 (no_index (OfNat.ofNat n : Int)) = w8 (UInt8.ofNat n) := by
  simp only [w8,UInt8.toNat_ofNat']; rw [Nat.mod_eq_of_lt (by simpa using h)]; rfl
theorem lit_nIo (n : Nat) : Value.int .i64 (no_index (OfNat.ofNat n : Int)) = nI n := rfl
section
variable (P : Program) (t : TypeId)
theorem bin_int (op : BinOp) (k k' : IntKind) (a b : Int) : binPlan P op t (.val (.int k a)) (.val (.int k' b)) = (sbin op (.int k a) (.int k' b)).map fun v => vp (.val v) := by
  unfold binPlan; cases td P t <;> rfl
theorem bin_str (op : BinOp) (a b : ByteArray) : binPlan P op t (.val (.string a)) (.val (.string b)) = (sbin op (.string a) (.string b)).map fun v => vp (.val v) := by
  unfold binPlan; cases td P t <;> rfl
def binB (op : BinOp) (d : Option TD) (a b : Bool) (p : Option Plan) : Option Plan := match d with
  | some d => (match d.u with
    | .bool => (match op with
      | .eql => some (vp (.val (.bool (a == b))))
      | .neq => some (vp (.val (.bool (!(a == b)))))
      | _ => none)
    | _ => none)
  | none => p
theorem bin_bool (op : BinOp) (a b : Bool) : binPlan P op t (.val (.bool a)) (.val (.bool b)) = binB op (td P t) a b (eqPlan P op t (.val (.bool a)) (.val (.bool b))) := by
  unfold binPlan binB
  cases td P t with
  | none => rfl
  | some d =>
    simp only []
    cases d.u <;> first | rfl | (cases op <;> rfl)
theorem binB_neq (s y : Nat) (z : List Value) (a b : Bool) (p : Option Plan) : binB .neq (some ⟨.bool,s,y,z⟩) a b p = some (vp (.val (.bool (!(a == b))))) := rfl
end
end Go.Sx
namespace Go.Sx
open Go.RowKit
section
variable (P : Program) (t : TypeId)
theorem b_add (x y : UInt8) : binPlan P .add t (.val (w8 x)) (.val (w8 y)) = some (vp (.val (w8 (x + y)))) := by
  simp only [w8,bin_int,sbin,ne_eq,not_true_eq_false,if_false,Option.map_some,wrap_u8,UInt8.toNat_add]; simp
theorem b_sub (x y : UInt8) : binPlan P .sub t (.val (w8 x)) (.val (w8 y)) = some (vp (.val (w8 (x - y)))) := by
  simp only [w8,bin_int,sbin,ne_eq,not_true_eq_false,if_false,Option.map_some,wrap_u8,UInt8.toNat_sub]
  have := x.toNat_lt; have := y.toNat_lt
  congr 4; omega
theorem b_eql (x y : UInt8) : binPlan P .eql t (.val (w8 x)) (.val (w8 y)) = some (vp (.val (.bool (decide (x = y))))) := by
  simp only [w8,bin_int,sbin,ne_eq,not_true_eq_false,if_false,Option.map_some]
  congr 4; rw [Bool.eq_iff_iff]; simp [← UInt8.toNat_inj]; omega
theorem b_lss (x y : UInt8) : binPlan P .lss t (.val (w8 x)) (.val (w8 y)) = some (vp (.val (.bool (decide (x < y))))) := by
  simp only [w8,bin_int,sbin,ne_eq,not_true_eq_false,if_false,Option.map_some]
  congr 4; rw [Bool.eq_iff_iff]; simp [UInt8.lt_iff_toNat_lt]
theorem b_leq (x y : UInt8) : binPlan P .leq t (.val (w8 x)) (.val (w8 y)) = some (vp (.val (.bool (decide (x ≤ y))))) := by
  simp only [w8,bin_int,sbin,ne_eq,not_true_eq_false,if_false,Option.map_some]
  congr 4; rw [Bool.eq_iff_iff]; simp [UInt8.le_iff_toNat_le]
theorem b_gtr (x y : UInt8) : binPlan P .gtr t (.val (w8 x)) (.val (w8 y)) = some (vp (.val (.bool (decide (y < x))))) := by
  simp only [w8,bin_int,sbin,ne_eq,not_true_eq_false,if_false,Option.map_some]
  congr 4; rw [Bool.eq_iff_iff]; simp [UInt8.lt_iff_toNat_lt]
theorem b_geq (x y : UInt8) : binPlan P .geq t (.val (w8 x)) (.val (w8 y)) = some (vp (.val (.bool (decide (y ≤ x))))) := by
  simp only [w8,bin_int,sbin,ne_eq,not_true_eq_false,if_false,Option.map_some]
  congr 4; rw [Bool.eq_iff_iff]; simp [UInt8.le_iff_toNat_le]
theorem n_add (x y : Nat) (h : x + y < 9223372036854775808) : binPlan P .add t (.val (nI x)) (.val (nI y)) = some (vp (.val (nI (x + y)))) := by
  simp only [nI,bin_int,sbin,ne_eq,not_true_eq_false,if_false,Option.map_some]
  rw [wrap_i64 _ (by omega) (by omega)]; simp
theorem n_sub (x y : Nat) (h : y ≤ x ∧ x < 9223372036854775808) : binPlan P .sub t (.val (nI x)) (.val (nI y)) = some (vp (.val (nI (x - y)))) := by
  simp only [nI,bin_int,sbin,ne_eq,not_true_eq_false,if_false,Option.map_some]
  rw [wrap_i64 _ (by omega) (by omega)]; congr 4; omega
theorem n_mul (x y : Nat) (h : x * y < 9223372036854775808) : binPlan P .mul t (.val (nI x)) (.val (nI y)) = some (vp (.val (nI (x * y)))) := by
  have e : (x : Int) * (y : Int) = ((x * y : Nat) : Int) := by simp
  simp only [nI,bin_int,sbin,ne_eq,not_true_eq_false,if_false,Option.map_some]
  rw [e,wrap_i64 _ (by omega) (by omega)]
theorem n_quo (x y : Nat) (h : 0 < y ∧ x < 9223372036854775808) : binPlan P .quo t (.val (nI x)) (.val (nI y)) = some (vp (.val (nI (x / y)))) := by
  have hy : (y : Int) ≠ 0 := by omega
  have h2 : x / y ≤ x := Nat.div_le_self ..
  simp only [nI,bin_int,sbin,ne_eq,not_true_eq_false,if_false,Option.map_some,hy]
  have e : ((x : Int).tdiv (y : Int)) = ((x / y : Nat) : Int) := rfl
  rw [e]
  generalize x / y = q at h2
  rw [wrap_i64 _ (by omega) (by omega)]
theorem n_rem (x y : Nat) (h : 0 < y) : binPlan P .rem t (.val (nI x)) (.val (nI y)) = some (vp (.val (nI (x % y)))) := by
  have hy : (y : Int) ≠ 0 := by omega
  simp only [nI,bin_int,sbin,ne_eq,not_true_eq_false,if_false,Option.map_some,hy]
  rfl
theorem n_eql (x y : Nat) : binPlan P .eql t (.val (nI x)) (.val (nI y)) = some (vp (.val (.bool (decide (x = y))))) := by
  simp only [nI,bin_int,sbin,ne_eq,not_true_eq_false,if_false,Option.map_some]
  congr 4; rw [Bool.eq_iff_iff]; simp; omega
theorem n_neq (x y : Nat) : binPlan P .neq t (.val (nI x)) (.val (nI y)) = some (vp (.val (.bool (decide (x ≠ y))))) := by
  simp only [nI,bin_int,sbin,ne_eq,not_true_eq_false,if_false,Option.map_some]
  congr 4; rw [Bool.eq_iff_iff]; simp; omega
theorem n_lss (x y : Nat) : binPlan P .lss t (.val (nI x)) (.val (nI y)) = some (vp (.val (.bool (decide (x < y))))) := by
  simp only [nI,bin_int,sbin,ne_eq,not_true_eq_false,if_false,Option.map_some]
  congr 4; rw [Bool.eq_iff_iff]; simp
theorem n_gtr (x y : Nat) : binPlan P .gtr t (.val (nI x)) (.val (nI y)) = some (vp (.val (.bool (decide (y < x))))) := by
  simp only [nI,bin_int,sbin,ne_eq,not_true_eq_false,if_false,Option.map_some]
  congr 4; rw [Bool.eq_iff_iff]; simp
theorem n_geq (x y : Nat) : binPlan P .geq t (.val (nI x)) (.val (nI y)) = some (vp (.val (.bool (decide (y ≤ x))))) := by
  simp only [nI,bin_int,sbin,ne_eq,not_true_eq_false,if_false,Option.map_some]
  congr 4; rw [Bool.eq_iff_iff]; simp
theorem size_mk (l : List UInt8) : (⟨l.toArray⟩ : ByteArray).size = l.length := by simp [ByteArray.size]
theorem toList_mk (l : List UInt8) : (⟨l.toArray⟩ : ByteArray).toList = l := by
  have key : ∀ (n : Nat) (i : Nat) (r : List UInt8),l.length - i = n → i ≤ l.length → ByteArray.toList.loop ⟨l.toArray⟩ i r = r.reverse ++ l.drop i := by
    intro n
    induction n with
    | zero =>
      intro i r h hi
      rw [ByteArray.toList.loop,size_mk,if_neg (by omega),List.drop_of_length_le (by omega),List.append_nil]
    | succ n ih =>
      intro i r h hi
      rw [ByteArray.toList.loop,size_mk,if_pos (by omega),ih _ _ (by omega) (by omega)]
      have hlt : i < l.length := by omega
      rw [List.drop_eq_getElem_cons hlt]
      simp [ByteArray.get!,hlt]
  have := key l.length 0 [] rfl (Nat.zero_le _)
  simpa [ByteArray.toList] using this
theorem s_eql (x y : List UInt8) : binPlan P .eql t (.val (str x)) (.val (str y)) = some (vp (.val (.bool (decide (x = y))))) := by
  simp only [str,bin_str,sbin,toList_mk,Option.map_some]
  congr 4
  rw [Bool.eq_iff_iff]; simp
theorem s_add (x y : List UInt8) (h : x.length + y.length < 9223372036854775808) : binPlan P .add t (.val (str x)) (.val (str y)) = some (vp (.val (str (x ++ y)))) := by
  simp only [str,bin_str,sbin,size_mk]
  rw [if_pos (by omega)]
  simp only [Option.map_some]
  congr 4
end
end Go.Sx
namespace Go.Sx
open Go.RowKit
def gt {α : Type} [Inhabited α] (l : List α) (k : Nat) : α := l.getD k default
def cvP (P : Program) (s d : Option TD) (c : C) : Option Plan := match s,d with
  | some ds,some dd =>
    match ds.u,dd.u,c with
    | _,.int k,.val (.int _ n) => some (.pure (.val (.int k (k.wrap n))))
    | _,.string,.val (.string s) => some (.pure (.val (.string s)))
    | .string,.slice e,.val (.string s) => match td P e with
      | some de => (match de.u with
        | .int .u8 => if s.size ≤ 140737488355328 then some (.pure (.sl .no s.size (s.data.toList.map byteC))) else none
        | _ => none)
      | none => none
    | .slice e,.string,c => match td P e with
      | some de => (match de.u with
        | .int .u8 => (match c with
          | .sv b off n => some (.rd b fun cells => if off + n ≤ cells.length then (u8s? ((cells.drop off).take n)).map fun ns => .val (.string (strOf ns)) else none)
          | c => match c.sl? with
            | some (n,xs) => if xs.length = n then (u8s? xs).map fun ns => .pure (.val (.string (strOf ns))) else none
            | none => none)
        | _ => none)
      | none => none
    | _,_,_ => none
  | _,_ => none
theorem conv_td (P : Program) (s d : TypeId) (c : C) : convPlan P s d c = cvP P (td P s) (td P d) c := rfl
section
variable (P : Program) (u1 : TypeDesc) (a1 b1 a2 b2 a3 b3 : Nat) (z1 z2 z3 : List Value)
theorem u8s_cl (l : List UInt8) : u8s? (cl bC l) = some (l.map fun b => (b.toNat : Int)) := by
  induction l with
  | nil => rfl
  | cons a l ih =>
    show u8s? (.val (.int .u8 _) :: cl bC l) = _
    simp only [u8s?,ih,Option.map_some,List.map_cons]
theorem strOf_map (l : List UInt8) : (Value.string (strOf (l.map fun b => (b.toNat : Int)))) = str l := by
  unfold strOf str
  rw [List.map_map]
  have : (fun n : Int => UInt8.ofNat n.toNat) ∘ (fun b : UInt8 => (b.toNat : Int)) = id := by
    funext b; simp
  rw [this,List.map_id]
def cvV (de : Option TD) (b off n : Nat) : Option Plan := match de with
  | some de => (match de.u with
    | .int .u8 => some (.rd b fun cells => if off + n ≤ cells.length then (u8s? ((cells.drop off).take n)).map fun ns => .val (.string (strOf ns)) else none)
    | _ => none)
  | none => none
def rds (cells : List C) (o n : Nat) : Option C := if o + n ≤ cells.length then (u8s? ((cells.drop o).take n)).map fun ns => .val (.string (strOf ns)) else none
theorem cv_vs (e : TypeId) (b off n : Nat) : cvP P (some ⟨.slice e,a1,b1,z1⟩) (some ⟨.string,a2,b2,z2⟩) (.sv b off n) = cvV (td P e) b off n := by
  unfold cvV
  show (match td P e with | some de => _ | none => none) = _
  cases td P e with
  | none => rfl
  | some de => rfl
theorem cvV_u8 (b off n : Nat) : cvV (some ⟨.int .u8,a3,b3,z3⟩) b off n = some (.rd b fun cells => rds cells off n) := rfl
theorem rds_cl (l : List UInt8) (o n : Nat) (h : o + n ≤ l.length) : rds (cl bC l) o n = some (.val (str ((l.drop o).take n))) := by
  have e1 := cl_drop (f := bC) l o
  have e2 := cl_take (f := bC) (l.drop o) n
  rw [Nat.mul_one] at e1 e2
  simp only [rds]
  rw [if_pos (by rw [cl_len (f := bC)]; omega),e1,e2,u8s_cl,Option.map_some,strOf_map]
def ldB (own : Bool) (t : Option TD) (b o : Nat) : Option Plan := match t with
  | none => none
  | some d => if own ∧ d.isAgg = false then some (.xr b o) else some (.rd b fun cells => getAt d cells o)
theorem load_bp (own : Bool) (t : TypeId) (b o : Nat) : loadPlan P own t (.bp b o) = ldB own (td P t) b o := by
  unfold loadPlan ldB; cases td P t <;> rfl
theorem ldB_int (k : IntKind) (b o : Nat) : ldB false (some ⟨.int k,a1,b1,z1⟩) b o = some (.rd b fun cells => rdc cells o) := rfl
theorem ldB_str (b o : Nat) : ldB false (some ⟨.string,a1,b1,z1⟩) b o = some (.rd b fun cells => rdc cells o) := rfl
theorem ldB_sl (e : TypeId) (b o : Nat) : ldB false (some ⟨.slice e,a1,b1,z1⟩) b o = some (.rd b fun cells => rdc cells o) := rfl
theorem ldB_slo (e : TypeId) (b o : Nat) : ldB true (some ⟨.slice e,a1,b1,z1⟩) b o = some (.xr b o) := rfl
theorem ldB_arr (own : Bool) (n : Nat) (e : TypeId) (b o : Nat) : ldB own (some ⟨.array n e,a1,b1,z1⟩) b o = some (.rd b fun cells => rda cells o a1) := by cases own <;> rfl
theorem ldB_struct (own : Bool) (fs : Array Field) (b o : Nat) : ldB own (some ⟨.struct fs,a1,b1,z1⟩) b o = some (.rd b fun cells => rda cells o a1) := by cases own <;> rfl
def ldK (t : Option TD) (xs : List C) : Option Plan := match t with
  | none => none
  | some d => (getAt d xs 0).map vp
theorem load_kp (own : Bool) (t : TypeId) (xs : List C) : loadPlan P own t (.kp xs) = ldK (td P t) xs := by
  unfold loadPlan ldK; cases td P t <;> rfl
theorem ldK_int (k : IntKind) (xs : List C) : ldK (some ⟨.int k,a1,b1,z1⟩) xs = (rdc xs 0).map vp := rfl
theorem ldK_str (xs : List C) : ldK (some ⟨.string,a1,b1,z1⟩) xs = (rdc xs 0).map vp := rfl
theorem ldK_sl (e : TypeId) (xs : List C) : ldK (some ⟨.slice e,a1,b1,z1⟩) xs = (rdc xs 0).map vp := rfl
theorem ldK_struct (fs : Array Field) (xs : List C) : ldK (some ⟨.struct fs,a1,b1,z1⟩) xs = (rda xs 0 a1).map vp := rfl
def stB (t : Option TD) (b o : Nat) (cs : Option (List C)) : Option Plan := match t with
  | none => none
  | some d => match cs with
    | some cs => if cs.length = d.size then some (.wr b (fun cells => wrc cells o cs) none) else none
    | none => none
theorem store_val (t : TypeId) (b o : Nat) (v : Value) (k : Option Nat) : storePlan P t (.bp b o) (.val v) k = stB (td P t) b o (C.val v).cells? := by
  unfold storePlan stB; cases td P t with
  | none => rfl
  | some d => simp only []; cases (C.val v).cells? <;> rfl
theorem store_agg (t : TypeId) (b o : Nat) (xs : List C) (k : Option Nat) : storePlan P t (.bp b o) (.agg xs) k = stB (td P t) b o (some (xs.map C.noR)) := by
  unfold storePlan stB; cases td P t <;> rfl
def stS (t : Option TD) (b o : Nat) (c : C) (k : Option Nat) : Option Plan := match t with
  | none => none
  | some d => if d.size = 1 then some (.wr b (fun cells => wrs cells o c) k) else none
theorem store_sl (t : TypeId) (b o : Nat) (r : Rt) (n : Nat) (xs : List C) (k : Option Nat) : storePlan P t (.bp b o) (.sl r n xs) k = stS (td P t) b o (.sl r n xs) k := by
  unfold storePlan stS; cases td P t <;> rfl
theorem stS_one (u : TypeDesc) (y : Nat) (z : List Value) (b o : Nat) (c : C) (k : Option Nat) : stS (some ⟨u,1,y,z⟩) b o c k = some (.wr b (fun cells => wrs cells o c) k) := rfl
theorem stB_many (u : TypeDesc) (s y : Nat) (z : List Value) (b o : Nat) (cs : List C) (h : cs.length = s) : stB (some ⟨u,s,y,z⟩) b o (some cs) = some (.wr b (fun cells => wrc cells o cs) none) := if_pos h
theorem cells_w8 (x : UInt8) : (C.val (w8 x)).cells? = some [.val (w8 x)] := rfl
theorem cells_nI (x : Nat) : (C.val (nI x)).cells? = some [.val (nI x)] := rfl
theorem cells_int (k : IntKind) (x : Int) : (C.val (.int k x)).cells? = some [.val (.int k x)] := rfl
theorem cells_str (x : List UInt8) : (C.val (str x)).cells? = some [.val (str x)] := rfl
theorem cells_bool (x : Bool) : (C.val (.bool x)).cells? = some [.val (.bool x)] := rfl
theorem cells_nil : (C.val (.slice none 0 0)).cells? = some [.val (.slice none 0 0)] := rfl
theorem cells_agg (xs : List C) : (C.agg xs).cells? = some (xs.map C.noR) := rfl
theorem idx_nI (i n : Nat) (h : i < n) : idx? (.val (nI i)) n = some i := by
  simp only [idx?,nI,C.int?]; rw [if_pos (by omega)]; simp
theorem bound_nI (i d m : Nat) (h : i ≤ m) : bound? (some (.val (nI i))) d m = some i := by
  simp only [bound?,nI,C.int?]; rw [if_pos (by omega)]; simp
theorem bound_none (d m : Nat) : bound? none d m = some d := rfl
def ixS (de : Option TD) (k : Option Nat) (f : Nat → Nat → Option Plan) : Option Plan := match de,k with
  | some de,some k => f de.size k
  | _,_ => none
theorem ixS_some (u : TypeDesc) (s y : Nat) (z : List Value) (k : Nat) (f : Nat → Nat → Option Plan) : ixS (some ⟨u,s,y,z⟩) (some k) f = f s k := rfl
def ixaP (P : Program) (t : Option TD) (c i : C) : Option Plan := match t with
  | none => none
  | some d =>
    match d.u,c with
    | .array n e,.bp b off => ixS (td P e) (idx? i n) fun s k => some (vp (.bp b (off + k * s)))
    | .array n e,.kp xs => ixS (td P e) (idx? i n) fun s k => if n * s ≤ xs.length then some (vp (.kp (xs.drop (k * s)))) else none
    | .slice e,.sv b off n => ixS (td P e) (idx? i n) fun s k => some (vp (.bp b (off + k * s)))
    | .slice e,.sl _ n xs => ixS (td P e) (idx? i n) fun s k => if xs.length = n * s ∧ xs ≠ [] then some (vp (.kp (xs.drop (k * s)))) else none
    | _,_ => none
theorem ixa_td (t : TypeId) (c i : C) : indexAddrPlan P t c i = ixaP P (td P t) c i := by
  unfold indexAddrPlan ixaP
  cases td P t with
  | none => rfl
  | some d =>
    simp only []
    cases d.u <;> cases c <;> first | rfl | (rename_i e _ _ _; cases td P e <;> first | rfl | (cases idx? i _ <;> rfl))
theorem ixa_ab (n : Nat) (e : TypeId) (b off : Nat) (i : C) : ixaP P (some ⟨.array n e,a1,b1,z1⟩) (.bp b off) i = ixS (td P e) (idx? i n) fun s k => some (vp (.bp b (off + k * s))) := rfl
theorem ixa_sv (e : TypeId) (b off n : Nat) (i : C) : ixaP P (some ⟨.slice e,a1,b1,z1⟩) (.sv b off n) i = ixS (td P e) (idx? i n) fun s k => some (vp (.bp b (off + k * s))) := rfl
theorem ixa_sl {α : Type} (f : α → List C) (e : TypeId) (r : Rt) (l : List α) (i : C) : ixaP P (some ⟨.slice e,a1,b1,z1⟩) (sl f r l) i = ixS (td P e) (idx? i l.length) fun s k => if (cl f l).length = l.length * s ∧ cl f l ≠ [] then some (vp (.kp ((cl f l).drop (k * s)))) else none := rfl
end
end Go.Sx
