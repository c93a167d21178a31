/-
   And what follows.
-/
import Derived.ChangeSame
import Derived.ChangeVars
import Derived.ChangeStays
import Derived.ChangeOld
import Derived.ChangeArms
import Derived.OpenShut
import Derived.RowKit
import Derived.JoinedOf
import Derived.Handed
import Derived.LaidLaws
import Derived.LaidMore
import Derived.KernelRfl
import Derived.LaidHandle
import Derived.MakeChecks
import Derived.Stop.Joined
import Derived.Lib.SlBytesConst
import Derived.Test.YtcpdlhgkdogdjaaDoorPai
set_option linter.unusedSimpArgs false
set_option linter.unusedVariables false
namespace Go.Sx
open Go.RowKit
section
variable {α : Type} (f : α → List C)
theorem noR_slno (l : List α) : (sl f .no l).noR = sl f .no l := rfl
theorem noR_slfull (l : List α) : (sl f .full l).noR = sl f .full l := rfl
theorem noR_slown (s : Nat) (l : List α) : (sl f (.own s) l).noR = sl f .no l := rfl
theorem share_slno (l : List α) : (sl f .no l).share = sl f .no l := rfl
theorem share_slfull (l : List α) : (sl f .full l).share = sl f .no l := rfl
end
theorem share_w8 (x : UInt8) : (C.val (w8 x)).share = .val (w8 x) := rfl
theorem share_nI (x : Nat) : (C.val (nI x)).share = .val (nI x) := rfl
theorem share_strs (x : List UInt8) : (C.val (str x)).share = .val (str x) := rfl
section
variable (P : Program) (u1 : TypeDesc) (a1 b1 a2 b2 a3 b3 : Nat) (z1 z2 z3 : List Value)
def lenP (t : Option TD) (x : C) : Option Plan := match t with
  | none => none
  | some d =>
    match d.u,x with
    | .string,.val (.string s) => some (.pure (.val (.int .i64 s.size)))
    | .array n _,_ => some (.pure (.val (.int .i64 n)))
    | .slice _,.sv _ _ n => some (.pure (.val (.int .i64 n)))
    | .slice _,x => x.sl?.map fun r => .pure (.val (.int .i64 r.1))
    | _,_ => none
theorem len_td (t : TypeId) (x : C) : lenPlan P t x = lenP (td P t) x := rfl
theorem len_str (l : List UInt8) : lenP (some ⟨.string,a1,b1,z1⟩) (.val (str l)) = some (vp (.val (nI l.length))) := by
  show some (vp (.val (.int .i64 ((⟨l.toArray⟩ : ByteArray).size : Nat)))) = _
  rw [size_mk]; rfl
theorem len_sv (e : TypeId) (b o n : Nat) : lenP (some ⟨.slice e,a1,b1,z1⟩) (.sv b o n) = some (vp (.val (nI n))) := rfl
theorem len_sl {α : Type} (f : α → List C) (e : TypeId) (r : Rt) (l : List α) : lenP (some ⟨.slice e,a1,b1,z1⟩) (sl f r l) = some (vp (.val (nI l.length))) := rfl
def inxP (P : Program) (t : Option TD) (c i : C) : Option Plan := match t with
  | none => none
  | some d =>
    match d.u,c with
    | .string,.val (.string s) => match idx? i s.size with
      | some k => (s.data[k]?).map fun b => .pure (byteC b)
      | none => none
    | .array n e,c => match td P e,idx? i n,c.agg? with
      | some de,some k,some xs => (getAt de xs (k * de.size)).map .pure
      | _,_,_ => none
    | _,_ => none
theorem inx_td (t : TypeId) (c i : C) : indexPlan P t c i = inxP P (td P t) c i := rfl
def inS (l : List UInt8) (k : Option Nat) : Option Plan := match k with
  | some k => (l[k]?).map fun b => vp (byteC b)
  | none => none
theorem inx_str (l : List UInt8) (i : C) : inxP P (some ⟨.string,a1,b1,z1⟩) (.val (str l)) i = inS l (idx? i l.length) := by
  unfold inS
  show (match idx? i (⟨l.toArray⟩ : ByteArray).size with | some k => _ | none => none) = _
  rw [size_mk]
  cases idx? i l.length with
  | none => rfl
  | some k => simp only []; rw [List.getElem?_toArray]; rfl
theorem inS_some (l : List UInt8) (k : Nat) (h : k < l.length) : inS l (some k) = some (vp (.val (w8 (gt l k)))) := by
  simp [inS,gt,List.getD,List.getElem?_eq_getElem h]; rfl
def fldP (P : Program) (t : Option TD) (c : C) (f : Nat) : Option Plan := match t with
  | none => none
  | some d =>
    match d.u with
    | .struct fields => match fields[f]?,c.agg? with
      | some fd,some xs => (match td P fd.type with
        | some de => (getAt de xs fd.offset).map .pure
        | none => none)
      | _,_ => none
    | _ => none
def sl2 (hi lo : Option C) (n : Nat) (F : Nat → Nat → Option Plan) : Option Plan := match bound? hi n n with
  | some h => (match bound? lo 0 h with
    | some k => F h k
    | none => none)
  | none => none
def slS (hi lo : Option Nat) (F : Nat → Nat → Option Plan) : Option Plan := match hi,lo with
  | some h,some k => F h k
  | _,_ => none
def slP (P : Program) (t : Option TD) (c : C) (lo hi : Option C) : Option Plan := match t with
  | none => none
  | some d =>
    match d.u,c with
    | .string,.val (.string s) => sl2 hi lo s.size fun h k => some (vp (.val (.string (s.extract k h))))
    | .slice e,.sv b off n => (match td P e with
      | some de => sl2 hi lo n fun h k => some (vp (.sv b (off + k * de.size) (h - k)))
      | none => none)
    | .slice e,c => (match td P e,c.sl? with
      | some de,some (n,xs) => if xs.length = n * de.size then sl2 hi lo n fun h k => some (vp (.sl .no (h - k) ((xs.drop (k * de.size)).take ((h - k) * de.size)))) else none
      | _,_ => none)
    | .array n e,.bp b off => (match td P e with
      | some de => if 65536 < n then none else sl2 hi lo n fun h k => some (vp (.sv b (off + k * de.size) (h - k)))
      | none => none)
    | .array n e,.kp xs => (match td P e with
      | some de => if 65536 < n ∨ xs.length < n * de.size then none else sl2 hi lo n fun h k => some (vp (.sl .no (h - k) ((xs.drop (k * de.size)).take ((h - k) * de.size))))
      | none => none)
    | _,_ => none
theorem slice_td (t : TypeId) (c : C) (lo hi : Option C) : slicePlan P t c lo hi none = slP P (td P t) c lo hi := by
  unfold slicePlan slP sl2
  cases td P t with
  | none => rfl
  | some d =>
    obtain ⟨u,s,y,z⟩ := d
    simp only [Option.isSome_none,Bool.false_eq_true,if_false,false_or,Option.isNone_none,true_or,and_true,bound_none,false_and]
    cases u with
    | string => cases c with
      | val v => cases v <;> rfl
      | _ => rfl
    | slice e => cases c <;> rfl
    | array n e => cases c <;> rfl
    | _ => rfl
theorem sl2_none (lo : Option C) (n : Nat) (F : Nat → Nat → Option Plan) : sl2 none lo n F = slS (some n) (bound? lo 0 n) F := by
  unfold sl2 slS; simp only [bound_none]; cases bound? lo 0 n <;> rfl
theorem slS_some (h k : Nat) (F : Nat → Nat → Option Plan) : slS (some h) (some k) F = F h k := rfl
theorem slP_sl {α : Type} (f : α → List C) {s0 : Nat} [hf : Cel f s0] (e : TypeId) (r : Rt) (l : List α) (lo hi : Option C) (u : TypeDesc) (y : Nat) (z : List Value) (h : td P e = some ⟨u,s0,y,z⟩) :
    slP P (some ⟨.slice e,a1,b1,z1⟩) (sl f r l) lo hi = sl2 hi lo l.length fun h k => some (vp (sl f .no ((l.drop k).take (h - k)))) := by
  show (match td P e,(sl f r l).sl? with | some de,some (n,xs) => _ | _,_ => none) = _
  rw [h]
  simp only [sl,C.sl?]
  rw [if_pos (cl_len (f := f) l)]
  simp only [cl_drop,cl_take]
  unfold sl2
  cases hb : bound? hi l.length l.length with
  | none => rfl
  | some hh =>
    simp only []
    cases hb2 : bound? lo 0 hh with
    | none => rfl
    | some k =>
      have h1 : hh ≤ l.length := by
        unfold bound? at hb
        split at hb
        · simp only [Option.some.injEq] at hb; omega
        · split at hb
          · split at hb
            · simp only [Option.some.injEq] at hb; omega
            · cases hb
          · cases hb
      simp only [List.length_take,List.length_drop]
      rw [Nat.min_eq_left (by omega)]
def apS (x : C) (de : TD) (xt : Option Nat) : Option (Nat × List C × Option Nat) := match x with
  | .val (.slice none 0 0) => some (0,[],none)
  | .sl .full n xs => some (n,xs,none)
  | .sl (.own s) n xs => if s = de.size then some (n,xs,xt) else none
  | _ => none
def apF (de : TD) (n : Nat) (xs : List C) (m : Nat) (ys : List C) : Option C :=
  if xs.length = n * de.size ∧ ys.length = m * de.size ∧ 0 < de.size ∧ de.zero.length = de.size ∧ (n + m) * de.bytes ≤ 140737488355328 ∧ n + m ≤ 9223372036854775807 then some (.sl (.own de.size) (n + m) (xs ++ ys)) else none
def apP (P : Program) (t t2 : Option TD) (x y : C) (xt : Option Nat) : Option Plan := match t,t2 with
  | none,_ => none
  | _,none => none
  | some d,some d2 =>
    if notInt d2.u = false then none else
    match d.u with
    | .slice e => match td P e with
      | none => none
      | some de => match apS x de xt with
        | none => none
        | some (n,xs,k) =>
          match y with
          | .sv b off m => if k.isSome then some (.wr b (fun cells => (if off + m * de.size ≤ cells.length then apF de n xs m (((cells.drop off).take (m * de.size)).map C.noR) else none).map fun c => (cells,c)) k)
            else some (.rd b fun cells => if off + m * de.size ≤ cells.length then apF de n xs m (((cells.drop off).take (m * de.size)).map C.noR) else none)
          | y => match src? y with
            | some (m,ys) => (apF de n xs m ys).map fun c => .val c k
            | none => none
    | _ => none
theorem app_td (t t2 : TypeId) (x y : C) (xt : Option Nat) : appendPlan P t t2 x y xt = apP P (td P t) (td P t2) x y xt := rfl
def apQ (de : Option TD) (x y : C) (xt : Option Nat) : Option Plan := match de with
  | none => none
  | some de => match apS x de xt with
    | none => none
    | some (n,xs,k) =>
      match y with
      | .sv b off m => if k.isSome then some (.wr b (fun cells => (if off + m * de.size ≤ cells.length then apF de n xs m (((cells.drop off).take (m * de.size)).map C.noR) else none).map fun c => (cells,c)) k)
            else some (.rd b fun cells => if off + m * de.size ≤ cells.length then apF de n xs m (((cells.drop off).take (m * de.size)).map C.noR) else none)
      | y => match src? y with
        | some (m,ys) => (apF de n xs m ys).map fun c => .val c k
        | none => none
theorem app_ss (e e2 : TypeId) (x y : C) (xt : Option Nat) : apP P (some ⟨.slice e,a1,b1,z1⟩) (some ⟨.slice e2,a2,b2,z2⟩) x y xt = apQ (td P e) x y xt := rfl
section
variable {α : Type} (f : α → List C) {s : Nat} [hf : Cel f s] (u : TypeDesc) (y : Nat) (z : List Value)
theorem apF_cl (l l' : List α) (hz : z.length = s) (h : (l.length + l'.length) * y ≤ 140737488355328 ∧ l.length + l'.length ≤ 9223372036854775807) :
    apF ⟨u,s,y,z⟩ l.length (cl f l) l'.length (cl f l') = some (sl f (.own s) (l ++ l')) := by
  unfold apF
  rw [if_pos ⟨cl_len (f := f) l,cl_len (f := f) l',hf.pos,hz,h.1,h.2⟩]
  simp [sl,cl_app]
theorem apQ_own (l l' : List α) (r : Rt) (xt : Option Nat) (hz : z.length = s) (h : (l.length + l'.length) * y ≤ 140737488355328 ∧ l.length + l'.length ≤ 9223372036854775807) :
    apQ (some ⟨u,s,y,z⟩) (sl f (.own s) l) (sl f r l') xt = some (.val (sl f (.own s) (l ++ l')) xt) := by
  show (match (if s = s then some (l.length,cl f l,xt) else none) with | none => none | some (n,xs,k) => (match some (l'.length,cl f l') with | some (m,ys) => (apF ⟨u,s,y,z⟩ n xs m ys).map fun c => Plan.val c k | none => none)) = _
  rw [if_pos rfl]
  simp only [apF_cl f u y z l l' hz h,Option.map_some]
theorem apQ_full (l l' : List α) (r : Rt) (xt : Option Nat) (hz : z.length = s) (h : (l.length + l'.length) * y ≤ 140737488355328 ∧ l.length + l'.length ≤ 9223372036854775807) :
    apQ (some ⟨u,s,y,z⟩) (sl f .full l) (sl f r l') xt = some (.val (sl f (.own s) (l ++ l')) none) := by
  show (match some (l'.length,cl f l') with | some (m,ys) => (apF ⟨u,s,y,z⟩ l.length (cl f l) m ys).map fun c => Plan.val c none | none => none) = _
  simp only [apF_cl f u y z l l' hz h,Option.map_some]
end
def apR (de : TD) (n : Nat) (xs : List C) (m : Nat) (off : Nat) (cells : List C) : Option C := if off + m * de.size ≤ cells.length then apF de n xs m (((cells.drop off).take (m * de.size)).map C.noR) else none
theorem apQ_ownsv {α : Type} (f : α → List C) {s : Nat} [hf : Cel f s] (u : TypeDesc) (y : Nat) (z : List Value) (l : List α) (b off m k : Nat) :
    apQ (some ⟨u,s,y,z⟩) (sl f (.own s) l) (.sv b off m) (some k) = some (.wr b (fun cells => (apR ⟨u,s,y,z⟩ l.length (cl f l) m off cells).map fun c => (cells,c)) (some k)) := by
  show (match (if s = s then some (l.length,cl f l,some k) else none) with | none => none | some (n,xs,k) => _) = _
  rw [if_pos rfl]; rfl
theorem apR_cl {α : Type} (f : α → List C) {s : Nat} [hf : Cel f s] (u : TypeDesc) (y : Nat) (z : List Value) (l l' : List α) (m : Nat) (hm : m = l'.length) (hz : z.length = s) (h : (l.length + l'.length) * y ≤ 140737488355328 ∧ l.length + l'.length ≤ 9223372036854775807) :
    apR ⟨u,s,y,z⟩ l.length (cl f l) m 0 (cl f l') = some (sl f (.own s) (l ++ l')) := by
  subst hm
  unfold apR
  have hl := cl_len (f := f) l'
  rw [if_pos (by rw [hl,Nat.zero_add]; exact Nat.le_refl _),List.drop_zero,List.take_of_length_le (by rw [hl]; exact Nat.le_refl _),cl_noR]
  exact apF_cl f u y z l l' hz h
theorem rep_nC (n : Nat) : List.replicate n (C.val (.int .i64 0)) = cl nC (List.replicate n 0) := by
  induction n with
  | zero => rfl
  | succ n ih => rw [List.replicate_succ,ih]; rfl
def boxQ (cs : Option (List C)) : Option Plan := match cs with
  | some cs => some (.new cs fun id => .bp id 0)
  | none => none
theorem box_cs (x : C) : boxP x = boxQ x.cells? := by unfold boxP boxQ; cases x.cells? <;> rfl
theorem boxQ_some (cs : List C) : boxQ (some cs) = some (.new cs fun id => .bp id 0) := rfl
theorem pick_tf (x y : C) : pickP (.val (.bool true)) x y = some (vp x) := rfl
theorem pick_ff (x y : C) : pickP (.val (.bool false)) x y = some (vp y) := rfl
end
end Go.Sx
namespace Go.Sx
open Go.RowKit
def pk (e : List (Nat × C)) : List Nat → List (Nat × C)
  | [] => []
  | k :: ks => (k,A e k) :: pk e ks
theorem A_pk (e : List (Nat × C)) (t : Nat) : ∀ ks : List Nat,A (pk e ks) t = .top ∨ A (pk e ks) t = A e t
  | [] => .inl rfl
  | k :: ks => by
    simp only [pk,A]
    by_cases h : t = k
    · subst h; right; simp
    · simp only [if_neg h]; exact A_pk e t ks
theorem pk_nil (e : List (Nat × C)) : pk e [] = [] := rfl
theorem pk_cons (e : List (Nat × C)) (k : Nat) (ks : List Nat) : pk e (k :: ks) = (k,A e k) :: pk e ks := rfl
section
variable {cx : Cx} {n : Nat} {Q : Ex → St → Prop} {e : List (Nat × C)} {h : Hp}
theorem Tr.kp (ks : List Nat) {c : Code} (H : Tr cx n c ⟨A (pk e ks),h⟩ Q) : Tr cx n c ⟨A e,h⟩ Q := by
  refine Tr.weaken (fun t => ?_) H
  rcases A_pk e t ks with q | q
  · rw [q]; exact CLe.top _
  · rw [q]; exact CLe.refl _
end
def condG (c : C) (p q : Prop) : Prop := ∃ b,c = .val (.bool b) ∧ GB b p q
theorem condG_bool (b : Bool) (p q : Prop) : condG (.val (.bool b)) p q = GB b p q := by
  simp [condG]
theorem Tr.condG {cx : Cx} {n : Nat} {Q : Ex → St → Prop} {e : List (Nat × C)} {h : Hp} {c : Operand} {x y : Code} (H : ∀ KT KF : Prop,(Tr cx n x ⟨A e,h⟩ Q → KT) → (Tr cx n y ⟨A e,h⟩ Q → KF) → Sx.condG (cx.ev (A e) c) KT KF) : Tr cx n (.cond c x y) ⟨A e,h⟩ Q := by
  obtain ⟨b,h1,h2,h3⟩ := H _ _ (fun x => x) (fun x => x)
  exact Tr.cond_split h1 h2 h3
theorem gt_def {α : Type} [Inhabited α] (l : List α) (k : Nat) : l.getD k default = gt l k := rfl
theorem thenQ_r (K : St → Prop) (Q : Ex → St → Prop) (s : St) : thenQ K Q .ret s = Q .ret s := rfl
theorem blockQ_r (k : Nat) (Q : Ex → St → Prop) (s : St) : blockQ k Q .ret s = Q .ret s := rfl
theorem EndsR_r (cx : Cx) (rs : List ResultVar) (c : C) (st : St) : EndsR cx rs c .ret st = (resL cx st rs = some c) := rfl
theorem resL_one (cx : Cx) (st : St) (r : ResultVar) : resL cx st [r] = resC cx st r := rfl
theorem resC_tmp (cx : Cx) (e : List (Nat × C)) (h : Hp) (t : Nat) : resC cx ⟨A e,h⟩ (.tmp t) = some (A e t) := rfl
def rcP (t : Option TD) (c : C) (h : Hp) : Option C := match t,c with
  | some d,.bp b off => (h.at b).bind fun cells => getAt d cells off
  | _,_ => none
theorem resC_cell (cx : Cx) (e : List (Nat × C)) (h : Hp) (a : Nat) (t : TypeId) : resC cx ⟨A e,h⟩ (.cell a t) = rcP (td cx.P t) (A e a) h := rfl
theorem rcP_int (k : IntKind) (a b : Nat) (z : List Value) (x o : Nat) (h : Hp) : rcP (some ⟨.int k,a,b,z⟩) (.bp x o) h = (h.at x).bind fun cells => rdc cells o := rfl
theorem rcP_bool (a b : Nat) (z : List Value) (x o : Nat) (h : Hp) : rcP (some ⟨.bool,a,b,z⟩) (.bp x o) h = (h.at x).bind fun cells => rdc cells o := rfl
theorem rcP_arr (n : Nat) (e : TypeId) (a b : Nat) (z : List Value) (x o : Nat) (h : Hp) : rcP (some ⟨.array n e,a,b,z⟩) (.bp x o) h = (h.at x).bind fun cells => rda cells o a := rfl
theorem rcP_struct (fs : Array Field) (a b : Nat) (z : List Value) (x o : Nat) (h : Hp) : rcP (some ⟨.struct fs,a,b,z⟩) (.bp x o) h = (h.at x).bind fun cells => rda cells o a := rfl
theorem Le_nil (env : Nat → C) : Le env [] = True := rfl
theorem Le_cons (env : Nat → C) (k : Nat) (c : C) (l : List (Nat × C)) : Le env ((k,c) :: l) = (CLe (env k) c ∧ Le env l) := rfl
theorem CLe_refl (c : C) : CLe c c = True := by simp [CLe.refl]
theorem CLe_top (c : C) : CLe c .top = True := by simp [CLe.top]
theorem CLe_full {α : Type} (f : α → List C) (r : Rt) (l : List α) : CLe (sl f .full l) (sl f r l) = True := by simp only [sl,eq_iff_iff,iff_true]; exact CLe.full ..
theorem CLe_nil {α : Type} (f : α → List C) (r : Rt) : CLe (.val (.slice none 0 0)) (sl f r []) = True := by simp only [sl,eq_iff_iff,iff_true]; exact CLe.nil _
theorem CLe_own {α : Type} (f : α → List C) (s : Nat) (l : List α) : CLe (sl f (.own s) l) (sl f .no l) = True := eq_true (CLe.noR (sl f (.own s) l))
theorem un_not (b : Bool) : unPlan .not (.val (.bool b)) = some (vp (.val (.bool (!b)))) := rfl
theorem rep_nI (n : Nat) : List.replicate n (C.val (nI 0)) = cl nC (List.replicate n 0) := rep_nC n
end Go.Sx
namespace Go.Sx
open Go.RowKit
end Go.Sx
namespace Go.Sx
open Go.RowKit
def refy : List C → Bool
  | [] => false
  | .sv _ _ _ :: _ => true
  | .bp _ _ :: _ => true
  | .gv _ _ _ :: _ => true
  | _ :: l => refy l
theorem refy_not : ∀ l : List C,refy l = true → noRefs 0 l = false
  | [],h => by cases h
  | c :: l,h => by
    cases c with
    | sv b o n => simp [noRefs,noRef]
    | bp b o => simp [noRefs,noRef]
    | gv b o s => simp [noRefs,noRef]
    | _ =>
      have := refy_not l h
      simp only [noRefs,this,Bool.and_false]
class Fla {α : Type} (f : α → List C) : Prop where
  flat : ∀ a,flats (f a) = true
instance : Fla bC := ⟨fun _ => rfl⟩
instance : Fla wC := ⟨fun _ => rfl⟩
instance : Fla sC := ⟨fun _ => rfl⟩
instance : Fla iC := ⟨fun _ => rfl⟩
instance : Fla nC := ⟨fun _ => rfl⟩
instance : Fla oC := ⟨fun _ => rfl⟩
theorem flats_app (xs ys : List C) : flats (xs ++ ys) = (flats xs && flats ys) := by
  induction xs with
  | nil => simp [flats]
  | cons x xs ih => simp only [List.cons_append,flats,ih,Bool.and_assoc]
theorem noRefs_app (k : Nat) (xs ys : List C) : noRefs k (xs ++ ys) = (noRefs k xs && noRefs k ys) := by
  induction xs with
  | nil => simp [noRefs]
  | cons x xs ih => simp only [List.cons_append,noRefs,ih,Bool.and_assoc]
theorem flats_cl {α : Type} (f : α → List C) [h : Fla f] : ∀ l : List α,flats (cl f l) = true
  | [] => rfl
  | a :: l => by rw [cl_cons,flats_app,h.flat,flats_cl f l]; rfl
mutual
theorem flat_noRef (k : Nat) : ∀ c : C,flat c = true → noRef k c = true
  | .val _,_ => rfl
  | .agg xs,h => by simp only [flat] at h; simp only [noRef]; exact flats_noRefs k xs h
  | .tup xs,h => by simp only [flat] at h; simp only [noRef]; exact flats_noRefs k xs h
  | .top,h => by cases h
  | .sl _ _ _,h => by cases h
  | .sv _ _ _,h => by cases h
  | .bp _ _,h => by cases h
  | .kp _,h => by cases h
  | .fn _ _,h => by cases h
theorem flats_noRefs (k : Nat) : ∀ l : List C,flats l = true → noRefs k l = true
  | [],_ => rfl
  | x :: xs,h => by
    simp only [flats,Bool.and_eq_true] at h
    simp only [noRefs,flat_noRef k x h.1,flats_noRefs k xs h.2,Bool.and_self]
end
class Nrf {α : Type} (f : α → List C) : Prop where
  nr : ∀ k a,noRefs k (f a) = true
instance {α : Type} (f : α → List C) [h : Fla f] : Nrf f := ⟨fun k a => flats_noRefs k _ (h.flat a)⟩
theorem noRefs_f {α : Type} (f : α → List C) [h : Nrf f] (k : Nat) (a : α) : noRefs k (f a) = true := h.nr k a
theorem noRefs_cl {α : Type} (f : α → List C) [h : Nrf f] (k : Nat) : ∀ l : List α,noRefs k (cl f l) = true
  | [] => rfl
  | a :: l => by rw [cl_cons,noRefs_app,h.nr,noRefs_cl f k l]; rfl
theorem noRef_sl {α : Type} (f : α → List C) [h : Nrf f] (k : Nat) (r : Rt) (l : List α) : noRef k (sl f r l) = true := noRefs_cl f k l
theorem noRef_agg (k : Nat) (xs : List C) : noRef k (.agg xs) = noRefs k xs := rfl
theorem noRef_tup (k : Nat) (xs : List C) : noRef k (.tup xs) = noRefs k xs := rfl
theorem noRef_kp (k : Nat) (xs : List C) : noRef k (.kp xs) = noRefs k xs := rfl
theorem noRef_val (k : Nat) (v : Value) : noRef k (.val v) = true := rfl
theorem noRefs_nil (k : Nat) : noRefs k [] = true := rfl
theorem noRefs_cons (k : Nat) (c : C) (l : List C) : noRefs k (c :: l) = (noRef k c && noRefs k l) := rfl
theorem flat_val (v : Value) : flat (.val v) = true := rfl
theorem callQ_some (cx : Cx) (g : Nat) (az : List C) (c : C) : callQ cx g az (some c) = some (vp c) := rfl
def callR (cx : Cx) (g : Nat) (az : List C) (b : Option Nat) (o : Option (C × Hp)) : Option Plan := match b with
  | some b => if o.isSome then some (.call g az) else some (.rd b (rdPu cx g az b))
  | none => if cx.gr (1000000 + g) = true then some (.rd 0 (rdE cx g az 0)) else some (.call g az)
theorem callQ_none (cx : Cx) (g : Nat) (az : List C) : callQ cx g az none = callR cx g az (refBox az) (cx.hp g az []) := by
  unfold callQ callR; rfl
theorem callR_rd (cx : Cx) (g : Nat) (az : List C) (b : Nat) : callR cx g az (some b) none = some (.rd b (rdPu cx g az b)) := rfl
theorem refBox_bp (b o : Nat) (l : List C) : refBox (.bp b o :: l) = oneB b l := rfl
theorem refBox_agg (xs l : List C) : refBox (.agg xs :: l) = refBox l := rfl
theorem refBox_val (v : Value) (l : List C) : refBox (.val v :: l) = refBox l := rfl
theorem oneB_nil (b : Nat) : oneB b [] = some b := rfl
def rdR (b : Bool) (c : C) : Option C := if b then some c else none
def rdQ (b : Bool) (c : Option C) : Option C := if b then (match c with
  | some c => rdR (flat c) c
  | none => none) else none
theorem rdPu_eq (cx : Cx) (g : Nat) (az : List C) (b : Nat) (cells : List C) : rdPu cx g az b cells = rdQ (noRefs 0 (frzs1 b cells az)) (cx.pu g (frzs1 b cells az)) := rfl
theorem rdQ_some (c : C) : rdQ true (some c) = rdR (flat c) c := rfl
theorem rdR_true (c : C) : rdR true c = some c := rfl
theorem frzs_nil (b : Nat) (cells : List C) : frzs1 b cells [] = [] := rfl
theorem frzs_cons (b : Nat) (cells : List C) (c : C) (l : List C) : frzs1 b cells (c :: l) = frz1 b cells c :: frzs1 b cells l := rfl
theorem frz_val (b : Nat) (cells : List C) (v : Value) : frz1 b cells (.val v) = .val v := rfl
def frzB (cells : List C) (o : Nat) : C := .kp ((cells.drop o).map C.noR)
theorem frz_bp (b : Nat) (cells : List C) (o : Nat) : frz1 b cells (.bp b o) = frzB cells o := by simp [frz1,frzB]
theorem frzB_one (c : C) : frzB [c] 0 = .kp [c.noR] := rfl
theorem hno_zero : ∀ (f : Nat) (az : List C),refy az = true → (fun _ _ => none : Nat → List C → Option C) f az = none := fun _ _ _ => rfl
theorem hno_ext {pu : Nat → List C → Option C} (hno : ∀ f az,refy az = true → pu f az = none) {α : Type} {enc : α → List C} {out : α → C} {f : Nat} (he : ∀ a,noRefs 0 (enc a) = true) : ∀ g az,refy az = true → Sx.ext pu f (tabOf enc out) g az = none := fun g az hr => by
  by_cases hgf : g = f
  · subst hgf
    rw [ext_hit]
    cases hq : tabOf enc out az with
    | none => rfl
    | some c =>
      obtain ⟨a,rfl,_⟩ := tabOf_some hq
      have := he a
      rw [refy_not _ hr] at this; cases this
  · rw [ext_miss hgf]; exact hno g az hr
theorem CxOK.ext2 {P : Program} {km : TypeId → Value → Bool} {gl : Nat → C} {pu : Nat → List C → Option C} {N M : Nat} (hcx : CxOK ⟨P,N,gl,pu,fun _ _ _ => none,fun _ => false,km,true⟩)
    {α : Type} {enc : α → List C} {out : α → C} {f : Nat} (he : ∀ a,noRefs 0 (enc a) = true) (h : ∀ a,FC P gl f (enc a) [] (out a) []) : CxOK ⟨P,M,gl,Sx.ext pu f (tabOf enc out),fun _ _ _ => none,fun _ => false,km,true⟩ :=
  hcx.ext (M := M) hcx.glo he h
theorem wrc_b (l : List (UInt8)) (k : Nat) (a : UInt8) (h : k < l.length) : wrc (cl bC l) k [.val (w8 a)] = some (cl bC (l.set k a),.val undef) := wrc_cl (f := bC) l k a h
def slG (de : Option TD) (s : Nat) (p : Option Plan) : Option Plan := match de with
  | some de => if de.size = s then p else none
  | none => none
section
variable (P : Program) (a1 b1 : Nat) (z1 : List Value)
def slH (de : Option TD) (s : Nat) (p q : Option Plan) : Option Plan := match de with
  | some de => if de.size = s then p else q
  | none => q
theorem slH_some (u : TypeDesc) (s y : Nat) (z : List Value) (p q : Option Plan) : slH (some ⟨u,s,y,z⟩) s p q = p := if_pos rfl
def slPo {α : Type} (f : α → List C) (e : TypeId) (r : Rt) (l : List α) (lo hi : Option C) : Option Plan := slP P (some ⟨.slice e,a1,b1,z1⟩) (sl f r l) lo hi
theorem slP_slT {α : Type} (f : α → List C) {s0 : Nat} [hf : Cel f s0] (e : TypeId) (r : Rt) (l : List α) (lo hi : Option C) :
    slP P (some ⟨.slice e,a1,b1,z1⟩) (sl f r l) lo hi = slH (td P e) s0 (sl2 hi lo l.length fun h k => some (vp (sl f .no ((l.drop k).take (h - k))))) (slPo P a1 b1 z1 f e r l lo hi) := by
  unfold slPo
  cases hq : td P e with
  | none => rfl
  | some de =>
    obtain ⟨u,s,y,z⟩ := de
    unfold slH
    simp only []
    split
    · rename_i hs
      subst hs
      exact slP_sl P a1 b1 z1 f e r l lo hi u y z hq
    · rfl
end
def ixL (de : Option TD) (k : Option Nat) (n : Nat) (xs : List C) : Option Plan := ixS de k fun s k => if xs.length = n * s ∧ xs ≠ [] then some (vp (.kp (xs.drop (k * s)))) else none
theorem ixa_slT {α : Type} (f : α → List C) (P : Program) (a1 b1 : Nat) (z1 : List Value) (e : TypeId) (r : Rt) (l : List α) (i : C) : ixaP P (some ⟨.slice e,a1,b1,z1⟩) (sl f r l) i = ixL (td P e) (idx? i l.length) l.length (cl f l) := ixa_sl P a1 b1 z1 f e r l i
theorem ixL_some {α : Type} (f : α → List C) {s : Nat} [hf : Cel f s] (u : TypeDesc) (y : Nat) (z : List Value) (k : Nat) (l : List α) (h : k < l.length) : ixL (some ⟨u,s,y,z⟩) (some k) l.length (cl f l) = some (vp (.kp ((cl f l).drop (k * s)))) := by
  show (if (cl f l).length = l.length * s ∧ cl f l ≠ [] then some (vp (.kp ((cl f l).drop (k * s)))) else none) = _
  rw [if_pos ⟨cl_len (f := f) l,fun e => by
    have h1 := cl_len (f := f) l
    rw [e] at h1
    have h2 := hf.pos
    have h3 : l.length * s ≠ 0 := Nat.mul_ne_zero (by omega) (by omega)
    exact h3 h1.symm⟩]
theorem refy_sv (b o n : Nat) (l : List C) : refy (.sv b o n :: l) = true := id rfl
theorem refy_bp (b o : Nat) (l : List C) : refy (.bp b o :: l) = true := id rfl
theorem refy_agg (xs l : List C) : refy (.agg xs :: l) = refy l := id rfl
theorem refy_val (v : Value) (l : List C) : refy (.val v :: l) = refy l := id rfl
theorem refy_kp (xs l : List C) : refy (.kp xs :: l) = refy l := id rfl
theorem refy_tsl {α : Type} (f : α → List C) (r : Rt) (x : List α) (l : List C) : refy (sl f r x :: l) = refy l := id rfl
theorem one_nI (x : Nat) : (nI x).oneCell' = true := id rfl
theorem one_str (x : List UInt8) : (str x).oneCell' = true := id rfl
theorem one_bool (x : Bool) : (Value.bool x).oneCell' = true := id rfl
theorem one_slice : (Value.slice none 0 0).oneCell' = true := id rfl
end Go.Sx
namespace Go.Sx
open Go.RowKit
def lay1 (cells : List C) : List (Nat × C) → Option Plan
  | [] => some (vp (.agg cells))
  | (i,c) :: r => match c.cells? with
    | some cs => if cs.length = 1 ∧ i + 1 ≤ cells.length then lay1 (splice cells i cs) r else none
    | none => none
theorem lay1_eq (y : Nat) : ∀ (parts : List (Nat × C)) (cells : List C),(lay (fun i => some (i * 1,1)) cells parts).map (fun cs => vp (.agg cs)) = lay1 cells parts
  | [],cells => rfl
  | (i,c) :: r,cells => by
    unfold lay lay1
    cases c.cells? with
    | none => rfl
    | some cs =>
      simp only [Nat.mul_one]
      split
      · have := lay1_eq y r (splice cells i cs)
        simpa only [Nat.mul_one] using this
      · rfl
def buildA (de : Option TD) (z : List Value) (parts : List (Nat × C)) (q : Option Plan) : Option Plan := match de with
  | some d => if d.size = 1 ∧ z.all (·.oneCell') = true then lay1 (z.map .val) parts else q
  | none => q
def bpo (P : Program) (n : Nat) (e : TypeId) (s y : Nat) (z : List Value) (parts : List (Nat × C)) : Option Plan := buildP P (some ⟨.array n e,s,y,z⟩) parts
theorem build_arr (P : Program) (n : Nat) (e : TypeId) (s y : Nat) (z : List Value) (parts : List (Nat × C)) : buildP P (some ⟨.array n e,s,y,z⟩) parts = buildA (td P e) z parts (bpo P n e s y z parts) := by
  unfold buildA bpo
  cases hq : td P e with
  | none => rfl
  | some d =>
    simp only []
    split
    · rename_i h
      unfold buildP
      simp only [h.2,Bool.true_eq_false,if_false,places,hq,Option.map_some,Option.bind_some,h.1]
      exact lay1_eq 0 parts _
    · rfl
theorem buildA_rep (u : TypeDesc) (y n : Nat) (z : List Value) (v : Value) (parts : List (Nat × C)) (q : Option Plan) (h : v.oneCell' = true) : buildA (some ⟨u,1,y,z⟩) (List.replicate n v) parts q = lay1 (List.replicate n (.val v)) parts := by
  unfold buildA
  simp only []
  rw [if_pos ⟨trivial,by simp [h]⟩,List.map_replicate]
def lay1s (n : Nat) (cells : List C) : List (Nat × C) → Option Plan
  | [] => some (vp (.sl .full n cells))
  | (i,c) :: r => match c.cells? with
    | some cs => if cs.length = 1 ∧ i + 1 ≤ cells.length then lay1s n (splice cells i cs) r else none
    | none => none
theorem lay1s_eq (n : Nat) : ∀ (parts : List (Nat × C)) (cells : List C),(lay (fun i => some (i * 1,1)) cells parts).map (fun cs => vp (.sl .full n cs)) = lay1s n cells parts
  | [],cells => rfl
  | (i,c) :: r,cells => by
    unfold lay lay1s
    cases c.cells? with
    | none => rfl
    | some cs =>
      simp only [Nat.mul_one]
      split
      · have := lay1s_eq n r (splice cells i cs)
        simpa only [Nat.mul_one] using this
      · rfl
def bsA (de : Option TD) (n : Nat) (parts : List (Nat × C)) : Option Plan := match de with
  | some de => if n * de.size ≤ 65536 ∧ n ≤ 65536 ∧ de.zero.length = de.size ∧ de.zero.all (·.oneCell') = true then
      (lay (fun i => some (i * de.size,de.size)) (repZero de.zero n) parts).map fun cs => vp (.sl .full n cs) else none
  | none => none
theorem bs_slice (P : Program) (e : TypeId) (s y n : Nat) (z : List Value) (parts : List (Nat × C)) : buildSliceP P false (some ⟨.slice e,s,y,z⟩) n parts = bsA (td P e) n parts := rfl
def bsG (e : Nat) (de : Option TD) (n : Nat) (parts : List (Nat × C)) : Option Plan := match de with
  | some de => if n * de.size ≤ 65536 ∧ n ≤ 65536 ∧ de.zero.length = de.size ∧ de.zero.all (·.oneCell') = true then
      (lay (fun i => some (i * de.size,de.size)) (repZero de.zero n) parts).map fun cs => .ap none (de.size,e) n fun _ => some cs else none
  | none => none
theorem bs_sliceG (P : Program) (e : TypeId) (s y n : Nat) (z : List Value) (parts : List (Nat × C)) : buildSliceP P true (some ⟨.slice e,s,y,z⟩) n parts = bsG e (td P e) n parts := rfl
theorem repZero_one (v : Value) : ∀ n,repZero [v] n = List.replicate n (.val v)
  | 0 => rfl
  | n + 1 => by rw [List.replicate_succ,← repZero_one v n]; rfl
theorem bsA_one (u : TypeDesc) (y n : Nat) (v : Value) (parts : List (Nat × C)) (h : v.oneCell' = true) (hn : n ≤ 65536) : bsA (some ⟨u,1,y,[v]⟩) n parts = lay1s n (List.replicate n (.val v)) parts := by
  unfold bsA
  simp only [Nat.mul_one,List.length_singleton,List.all_cons,List.all_nil,h,Bool.and_self,hn,and_self,if_true]
  rw [repZero_one]
  have := lay1s_eq n parts (List.replicate n (.val v))
  simpa only [Nat.mul_one] using this
theorem lay1s_s (n : Nat) (l : List (List UInt8)) (i : Nat) (x : List UInt8) (r : List (Nat × C)) (h : i < l.length) : lay1s n (cl sC l) ((i,.val (str x)) :: r) = lay1s n (cl sC (l.set i x)) r := by
  have e := cl_set (f := sC) l i x h
  rw [Nat.mul_one] at e
  have e2 : splice (cl sC l) i [.val (str x)] = cl sC (l.set i x) := e
  show (if [C.val (str x)].length = 1 ∧ i + 1 ≤ (cl sC l).length then lay1s n (splice (cl sC l) i [.val (str x)]) r else none) = _
  rw [if_pos ⟨rfl,by rw [cl_len (f := sC)]; omega⟩,e2]
theorem lay1s_nil {α : Type} (f : α → List C) (n : Nat) (l : List α) (h : n = l.length) : lay1s n (cl f l) [] = some (vp (sl f .full l)) := by
  subst h; rfl
theorem rep_str (n : Nat) : List.replicate n (C.val (str [])) = cl sC (List.replicate n []) := by
  induction n with
  | zero => rfl
  | succ n ih => rw [List.replicate_succ,ih]; rfl
theorem wrc_full (cells cs : List C) (h : cs.length = cells.length) : wrc cells 0 cs = some (cs,.val undef) := by
  unfold wrc splice
  rw [if_pos (by omega),List.take_zero,List.nil_append,Nat.zero_add,List.drop_of_length_le (by omega),List.append_nil]
theorem rda_full (cells : List C) (n : Nat) (h : cells.length = n) : rda cells 0 n = some (.agg (cells.map C.noR)) := by
  subst h
  unfold rda
  rw [if_pos (by omega),List.drop_zero,List.take_of_length_le (Nat.le_refl _)]
def zc (z : List Value) : List C := z.map .val
theorem zc_nil : zc [] = [] := rfl
theorem zc_cons (v : Value) (l : List Value) : zc (v :: l) = .val v :: zc l := rfl
theorem zc_rep (n : Nat) (v : Value) : zc (List.replicate n v) = List.replicate n (.val v) := by simp [zc]
def allOne (z : List Value) : Bool := z.all (·.oneCell')
theorem allOne_nil : allOne [] = true := rfl
theorem allOne_cons (v : Value) (l : List Value) : allOne (v :: l) = (v.oneCell' && allOne l) := rfl
theorem allOne_rep (n : Nat) (v : Value) (h : v.oneCell' = true) : allOne (List.replicate n v) = true := by simp [allOne,h]
def alQ (b : Bool) (cs : List C) : Option Plan := if b then some (.new cs fun id => .bp id 0) else none
theorem alloc_z (u : TypeDesc) (s y : Nat) (z : List Value) : allocP (some ⟨u,s,y,z⟩) = alQ (allOne z) (zc z) := rfl
theorem alQ_true (cs : List C) : alQ true cs = some (.new cs fun id => .bp id 0) := rfl
theorem allocG_F (t : TypeId) (T : Option TD) : allocG false t T = allocP T := by cases T <;> rfl
def plc (P : Program) : List Field → Option (List (Nat × Nat))
  | [] => some []
  | fd :: l => match td P fd.type,plc P l with
    | some d,some r => some ((fd.offset,d.size) :: r)
    | _,_ => none
theorem plc_eq (P : Program) : ∀ l : List Field,(l.mapM fun f => (td P f.type).map fun d => (f.offset,d.size)) = plc P l
  | [] => rfl
  | fd :: l => by
    rw [List.mapM_cons,plc_eq P l]
    simp only [plc,Option.bind_eq_bind,Option.pure_def]
    cases td P fd.type with
    | none => rfl
    | some d => cases plc P l <;> rfl
def plQ (d : Option TD) (o : Nat) (r : Option (List (Nat × Nat))) : Option (List (Nat × Nat)) := match d,r with
  | some d,some r => some ((o,d.size) :: r)
  | _,_ => none
theorem plc_nil (P : Program) : plc P [] = some [] := rfl
theorem plc_cons (P : Program) (nm : String) (t : TypeId) (o : Nat) (em : Bool) (tg pp : String) (bo : Nat) (l : List Field) : plc P (⟨nm,t,o,em,tg,pp,bo⟩ :: l) = plQ (td P t) o (plc P l) := by
  simp only [plc,plQ]
theorem plQ_some (u : TypeDesc) (s y : Nat) (z : List Value) (o : Nat) (r : List (Nat × Nat)) : plQ (some ⟨u,s,y,z⟩) o (some r) = some ((o,s) :: r) := rfl
def layS (pl : List (Nat × Nat)) (cells : List C) : List (Nat × C) → Option Plan
  | [] => some (vp (.agg cells))
  | (i,c) :: rest => match pl[i]?,c.cells? with
    | some (off,size),some cs => if cs.length = size ∧ off + size ≤ cells.length then layS pl (splice cells off cs) rest else none
    | _,_ => none
theorem layS_eq (pl : List (Nat × Nat)) : ∀ (parts : List (Nat × C)) (cells : List C),(lay (fun i => pl[i]?) cells parts).map (fun cs => vp (.agg cs)) = layS pl cells parts
  | [],cells => rfl
  | (i,c) :: r,cells => by
    unfold lay layS
    cases pl[i]? with
    | none => rfl
    | some p =>
      obtain ⟨off,size⟩ := p
      cases c.cells? with
      | none => rfl
      | some cs =>
        simp only []
        split
        · exact layS_eq pl r _
        · rfl
def bldS (b : Bool) (pl : Option (List (Nat × Nat))) (cells : List C) (parts : List (Nat × C)) : Option Plan := if b then (match pl with
  | some pl => layS pl cells parts
  | none => none) else none
theorem build_struct (P : Program) (fs : List Field) (s y : Nat) (z : List Value) (parts : List (Nat × C)) : buildP P (some ⟨.struct fs.toArray,s,y,z⟩) parts = bldS (allOne z) (plc P fs) (zc z) parts := by
  unfold buildP bldS allOne zc
  simp only [places]
  by_cases h : z.all (·.oneCell') = true
  · rw [if_neg (by rw [h]; decide),if_pos h,plc_eq]
    cases plc P fs with
    | none => rfl
    | some pl => exact layS_eq pl parts _
  · rw [if_pos (by simpa using h),if_neg h]
theorem bldS_true (pl : List (Nat × Nat)) (cells : List C) (parts : List (Nat × C)) : bldS true (some pl) cells parts = layS pl cells parts := rfl
def layQ (pl : List (Nat × Nat)) (p : Option (Nat × Nat)) (cs : Option (List C)) (cells : List C) (r : List (Nat × C)) : Option Plan := match p,cs with
  | some (off,size),some cs => if cs.length = size ∧ off + size ≤ cells.length then layS pl (splice cells off cs) r else none
  | _,_ => none
def layW (pl : List (Nat × Nat)) (q : Option (List C × C)) (r : List (Nat × C)) : Option Plan := match q with
  | some q => layS pl q.1 r
  | none => none
theorem layS_nil (pl : List (Nat × Nat)) (cells : List C) : layS pl cells [] = some (vp (.agg cells)) := rfl
theorem layS_cons (pl : List (Nat × Nat)) (cells : List C) (i : Nat) (c : C) (r : List (Nat × C)) : layS pl cells ((i,c) :: r) = layQ pl (pl[i]?) c.cells? cells r := by
  rw [layS.eq_def]; rfl
theorem layQ_some (pl : List (Nat × Nat)) (off size : Nat) (cs cells : List C) (r : List (Nat × C)) (h : cs.length = size) : layQ pl (some (off,size)) (some cs) cells r = layW pl (wrc cells off cs) r := by
  subst h
  unfold layQ layW wrc
  simp only [true_and]
  split <;> rfl
theorem layW_some (pl : List (Nat × Nat)) (cells : List C) (c : C) (r : List (Nat × C)) : layW pl (some (cells,c)) r = layS pl cells r := rfl
theorem bsA_n (u : TypeDesc) (y n : Nat) (parts : List (Nat × C)) (hn : n ≤ 65536) : bsA (some ⟨u,1,y,[nI 0]⟩) n parts = lay1s n (cl nC (List.replicate n 0)) parts := by
  rw [bsA_one u y n _ parts rfl hn,rep_nI]
theorem buildA_n (u : TypeDesc) (y n : Nat) (z : List Value) (parts : List (Nat × C)) (q : Option Plan) : buildA (some ⟨u,1,y,z⟩) (List.replicate n (nI 0)) parts q = lay1 (cl nC (List.replicate n 0)) parts := by
  rw [buildA_rep u y n z _ parts q rfl,rep_nI]
theorem bsA_s (u : TypeDesc) (y n : Nat) (parts : List (Nat × C)) (hn : n ≤ 65536) : bsA (some ⟨u,1,y,[str []]⟩) n parts = lay1s n (cl sC (List.replicate n [])) parts := by
  rw [bsA_one u y n _ parts rfl hn,rep_str]
end Go.Sx
namespace Go.Sx
open Go.RowKit Go.ChangeShapes Go.WideShapes
def GW (W : World) : Gh := ⟨fun b o => W.cell? ⟨b,o,none⟩,fun _ => none,fun _ => none,fun _ => none⟩
theorem GW_ok (W : World) : WorldOK (GW W) [] W :=
  ⟨fun _ _ _ h => h,fun b cells h => (by simp [Hp.at] at h),fun b blk h => (by cases h),fun b b' c c' blk _ _ h => (by cases h),fun b blk h => (by cases h),fun g p h => (by cases h),
    fun b cells off s n xs blk v h => (by simp [Hp.at] at h),fun b z h => (by cases h),fun b l h => (by simp [Hp.mp] at h),fun b b' l l' blk h => (by simp [Hp.mp] at h)⟩
def Rds (P : Program) (t : TypeId) {α : Type} (f : α → List C) (ok : α → Prop) : Prop :=
  ∀ {H : Type} {enc : TypeId × Value → H} {W : World} {base : Nat} {sp : Nat → Bool} {held : Bool} {fuel : Nat} {cs : List Value} {x : DataW H × List MemPlace},
    DataW.trod enc P W base sp held fuel t cs = some x → ∃ a,ok a ∧ RepL (GW W) (f a) cs ∧ ∀ u ∈ cs,u.oneCell' = true
section
variable {P : Program} {t e : TypeId}
theorem rds_val {c v : Value} {G : Gh} (h : v = c) : RepL G [.val c] [v] := by
  simp only [RepL,Rep]; exact ⟨v,[],rfl,h,rfl⟩
theorem rds_int (ht : P.underlying t = some (.int .i64)) : Rds P t iC fun n => -9223372036854775808 ≤ n ∧ n ≤ 9223372036854775807 := fun h => by
  obtain ⟨n,rfl,_,hw⟩ := DataW.trod_int ht h
  refine ⟨n,?_,rds_val rfl,by simp [Value.oneCell']⟩
  simpa [Lit.wf,IntKind.min,IntKind.max,IntKind.signed,IntKind.bits] using hw
theorem addr_add2 (b o x y : Nat) : ((⟨b,o,none⟩ : Addr).add x).add y = ⟨b,o + x + y,none⟩ := by
  simp only [Addr.add]
  by_cases hx : x = 0 <;> by_cases hy : y = 0 <;> simp [hx,hy]
theorem forall_lists {α : Type} {R : Nat → α → Prop} : ∀ n,(∀ i < n,∃ a,R i a) → ∃ l : List α,l.length = n ∧ ∀ i a,l[i]? = some a → R i a
  | 0,_ => ⟨[],rfl,by simp⟩
  | n + 1,h => by
    obtain ⟨l,h1,h2⟩ := forall_lists n (fun i hi => h i (by omega))
    obtain ⟨a,ha⟩ := h n (by omega)
    refine ⟨l ++ [a],by simp [h1],fun i b hb => ?_⟩
    rw [List.getElem?_append] at hb
    split at hb
    · exact h2 i b hb
    · rename_i hi
      have : i = n := by
        have := (List.getElem?_eq_some_iff.1 hb).1
        simp at this; omega
      subst this
      simp [h1] at hb; subst hb; exact ha
theorem cl_getq {α : Type} {f : α → List C} {s : Nat} [hf : Cel f s] (l : List α) (i j : Nat) (hj : j < s) : (cl f l)[i * s + j]? = (l[i]?).bind fun a => (f a)[j]? := by
  have h1 : (cl f l)[i * s + j]? = ((cl f l).drop (i * s))[j]? := by rw [List.getElem?_drop]
  rw [h1,cl_drop]
  cases hq : l[i]? with
  | none =>
    rw [List.drop_of_length_le (by simpa using hq)]; rfl
  | some a =>
    obtain ⟨hi,rfl⟩ := List.getElem?_eq_some_iff.1 hq
    rw [List.drop_eq_getElem_cons hi,cl_cons,List.getElem?_append_left (by rw [hf.len]; exact hj)]; rfl
theorem rds_slice {α : Type} {f : α → List C} {ok : α → Prop} {s : Nat} [hf : Cel f s] (ht : P.underlying t = some (.slice e)) (hc : P.cellsOf e = s) (he : Rds P e f ok) :
    Rds P t (fun l : List α => [sl f .no l]) fun l => l.length ≤ 9223372036854775807 ∧ ∀ a ∈ l,ok a := fun {H enc W base sp held fuel cs x} h => by
  rcases DataW.trod_slice ht h with ⟨rfl,_⟩ | ⟨a,len,cap,elems,rest,n,_,rfl,_,hb,hl,hm,hlen,hel,_,_⟩
  · refine ⟨[],⟨by simp,by simp⟩,?_,by simp [Value.oneCell']⟩
    simp only [RepL]
    refine ⟨_,[],rfl,?_,rfl⟩
    simp only [sl,Rep]
    exact ⟨none,0,rfl,Nat.le_refl _,Nat.zero_le _,by simp,.inl rfl⟩
  · have each : ∀ i < len,∃ b,ok b ∧ ∃ cs,W.cells? base (a.add (i * s)) s = some cs ∧ RepL (GW W) (f b) cs ∧ ∀ u ∈ cs,u.oneCell' = true := fun i hi => by
      have h1 := hel i hi
      rw [List.getElem?_eq_getElem (by omega),hc,Option.bind_eq_some_iff] at h1
      obtain ⟨cs,h2,h3⟩ := h1
      obtain ⟨b,h4,h5,h6⟩ := he h3
      exact ⟨b,h4,cs,h2,h5,h6⟩
    obtain ⟨l,hll,hlr⟩ := forall_lists len each
    refine ⟨l,⟨by rw [hll]; exact Nat.le_trans hl hm,fun b hb => by
      obtain ⟨i,hi⟩ := List.getElem?_of_mem hb
      exact (hlr i b hi).1⟩,?_,by simp [Value.oneCell']⟩
    simp only [RepL]
    refine ⟨_,[],rfl,?_,rfl⟩
    simp only [sl,Rep]
    refine ⟨some a,cap,by rw [hll],by omega,hm,by simp,?_⟩
    by_cases h0 : len = 0
    · left; have : l = [] := by rw [← List.length_eq_zero_iff]; omega
      subst this; rfl
    · right
      have hspot : a = ⟨a.block,a.off,none⟩ := by
        obtain ⟨b,hb⟩ : ∃ b,l[0]? = some b := ⟨_,List.getElem?_eq_getElem (by omega)⟩
        obtain ⟨_,cs,h2,_⟩ := hlr 0 b hb
        have h3 := (World.cells?_some h2).2.2 0 hf.pos
        simp only [Nat.zero_mul] at h3
        have h4 : W.cell? a ≠ none := by
          have : (a.add 0).add 0 = a := by simp [Addr.add]
          rw [this] at h3
          rw [h3]
          have := (World.cells?_some h2).2.1
          intro hq
          have := hf.pos
          have hq2 : cs.length ≤ 0 := by simpa using hq
          omega
        obtain ⟨blk,off,spot⟩ := a
        cases spot with
        | none => rfl
        | some q => simp [World.cell?] at h4; split at h4 <;> simp_all
      refine ⟨a.block,a.off,by rw [← hspot],?_⟩
      refine RepK.of_get fun k c hk => ?_
      have hkl : k < (cl f l).length := (List.getElem?_eq_some_iff.1 hk).1
      rw [cl_len (f := f)] at hkl
      have hs := hf.pos
      have hdm : k = (k / s) * s + k % s := by rw [Nat.mul_comm]; exact (Nat.div_add_mod k s).symm
      have hml : k % s < s := Nat.mod_lt _ hs
      rw [hdm,cl_getq (f := f) l _ _ hml] at hk
      rw [Option.bind_eq_some_iff] at hk
      obtain ⟨b,hb,hbc⟩ := hk
      obtain ⟨_,cs,h2,h3,h4⟩ := hlr _ b hb
      obtain ⟨u,hu1,hu2⟩ := h3.get _ c hbc
      refine ⟨u,?_,h4 u (List.mem_of_getElem? hu1),hu2⟩
      have h5 := (World.cells?_some h2).2.2 (k % s) hml
      rw [hu1] at h5
      rw [hspot] at h5
      show W.cell? ⟨a.block,a.off + k,none⟩ = some u
      rw [← h5]
      rw [addr_add2,Nat.add_assoc,← hdm]
end
section
variable {H : Type} {enc : TypeId × Value → H} {P : Program} {W : World} {base b0 : Nat} {sp : Nat → Bool} {held : Bool} {t : TypeId} {v : Value} {d : DataW H} {ps : List MemPlace}
theorem arg_one {α : Type} {f : α → List C} {g : α → C} {ok : α → Prop} (hg : ∀ a,f a = [g a]) (hr : Rds P t f ok) (hu : ∀ u,P.underlying t = some u → (match u with | .struct _ | .array _ _ => False | _ => True))
    (hval : Value.okWide P W .any b0 t v) (hd : DataW.Trod enc P W base sp held t v d ps) : ∃ a,ok a ∧ Rep (GW W) (g a) v := by
  obtain ⟨fuel,hd⟩ := hd
  obtain ⟨a,h1,h2,_⟩ := hr hd
  rw [hg] at h2
  simp only [RepL] at h2
  obtain ⟨u,vs,h3,h4,rfl⟩ := h2
  refine ⟨a,h1,?_⟩
  cases v with
  | agg cs =>
    exfalso
    unfold Value.okWide at hval
    cases hq : P.underlying t with
    | none => rw [hq] at hval; simp [Cell.okWide,Cell.ok,hq] at hval
    | some u =>
      have := hu u hq
      rw [hq] at hval
      cases u <;> simp_all [Cell.okWide,Cell.ok]
  | _ =>
    simp only [Value.cells,List.cons.injEq,and_true] at h3
    rw [h3]; exact h4
end
def slicesB (P : Program) : Bool := (List.range P.types.size).all fun t => match P.underlying t with
  | some (.slice e) => decide (0 < P.cellsOf e)
  | _ => true
theorem trodAll_stays {H : Type} {enc : TypeId × Value → H} {P : Program} {W W' : World} {sp : Nat → Bool} (hl : laidOutB P = true) (hm : mapsRowed P = true) (hs : slicesB P = true) :
    ∀ (ts : List TypeId) (vs : List Value) (ds : List (DataW H)) (ps : List MemPlace),(∀ t ∈ ts,t < P.types.size) → DataW.TrodAll enc P W 0 (fun _ => true) true ts vs ds ps →
      (∀ p ∈ ps,W.sameAt W' p) → (∀ p ∈ ps,sp p.block = true) → DataW.TrodAll enc P W' 0 sp true ts vs ds ps
  | [],[],[],ps,_,h,_,_ => h
  | t :: ts,v :: vs,d :: ds,ps,hb,h,h1,h2 => by
    obtain ⟨p,q,⟨fuel,h3⟩,h4,rfl⟩ := h
    refine ⟨p,q,⟨fuel,?_⟩,trodAll_stays hl hm hs ts vs ds q (fun t ht => hb t (List.mem_cons_of_mem _ ht)) h4 (fun p hp => h1 p (List.mem_append_right _ hp)) (fun p hp => h2 p (List.mem_append_right _ hp)),rfl⟩
    refine DataW.trod_stays (T := (· < P.types.size)) (kids_rows hl hm) (fun {t e} ht he => ?_) (fun h => by cases h) (hb t (List.mem_cons_self ..)) h3 (fun p hp => h1 p (List.mem_append_left _ hp)) (fun p hp => h2 p (List.mem_append_left _ hp))
    have := List.all_eq_true.1 hs t (List.mem_range.2 ht)
    rw [he] at this
    simpa using this
  | [],[],_ :: _,_,_,h,_,_ => h.elim
  | [],_ :: _,_,_,_,h,_,_ => h.elim
  | _ :: _,[],_,_,_,h,_,_ => h.elim
  | _ :: _,_ :: _,[],_,_,h,_,_ => h.elim
theorem law_post {H : Type} {enc : TypeId × Value → H} {P : Program} {f : Func} {s : ChangeSpec} {fresh handsOn again : Bool} {W W' : World} {args : Array Value} {ds gs : List (DataW H)} {before : List MemPlace} {t : TypeId}
    (hl : laidOutB P = true) (hm : mapsRowed P = true) (hsl : slicesB P = true) (hps : ∀ t ∈ f.params.toList,t < P.types.size)
    (hW : DataW.Whole enc P f.params.toList s.vars false W args.toList ds gs before) (hv : s.vars = [])
    (hs : s.fn H ds = { results := [.lit (.bool true)],args := ds }) (hr : f.resultTypes = #[t]) (ht : P.underlying t = some .bool)
    (hos : W'.os = W.os) (hout : W'.output = W.output) (hold : ∀ g < W.heap.size,W'.heap[g]? = W.heap[g]?) :
    s.post enc P f false fresh handsOn again W args (.bool true) W' := by
  have hlt := hW.lt
  have hW0 := hW
  obtain ⟨p,q,h1,h2,rfl,hz,hn⟩ := hW
  rw [hv] at h2
  obtain ⟨rfl,rfl⟩ := trodVars_none h2
  simp only [List.append_nil] at hW0 hlt hz hn
  have same : ∀ x ∈ p,W.sameAt W' x := fun x hx => by
    have hb := hold _ (hlt x hx)
    cases x with
    | cell b o => simp only [World.sameAt,MemPlace.block] at hb ⊢; simp only [World.cell?]; rw [hb]
    | map b => exact hb
  have args' : ∀ sp : Nat → Bool,(∀ x ∈ p,sp x.block = true) → DataW.TrodAll enc P W' 0 sp true f.params.toList args.toList ds p := fun sp hsp =>
    trodAll_stays hl hm hsl _ _ _ _ hps h1 same hsp
  have res : ∀ (b : Nat) (sp : Nat → Bool) (hd : Bool),DataW.TrodAll enc P W' b sp hd f.resultTypes.toList ((Value.bool true).resultList f.resultTypes.size) [.lit (.bool true)] [] := fun b sp hd => by
    rw [hr]; exact trodAll_mk1 (shut_bool ht true)
  refine ⟨ds,[],p,[],p,[],hW0,?_,?_,?_,?_,fun _ => ⟨?_,.lit (.bool true) :: ds,[],p,⟨p,[],?_,?_,by simp,fun b off hp => ?_,fun h => by cases h⟩,fun x hx _ => hx⟩⟩
  · rw [List.append_nil,hs]; exact res _ _ _
  · rw [List.append_nil,hs]; exact args' _ fun x hx => by simpa using hlt x hx
  · rw [List.append_nil,hs,hv]; rfl
  · refine ⟨hos,hout,fun i hi => ?_⟩
    rw [hold i hi]
    cases W.heap[i]? with
    | none => rfl
    | some o => cases o <;> simp
  · exact ok_one hr rfl (okWide_bool_mk ht true)
  · rw [hr]
    exact ⟨[],p,shut_bool ht true,args' (fun _ => true) fun _ _ => rfl,rfl⟩
  · rw [hv]; rfl
  · have := hz b off hp
    simp only [World.frozen?] at this ⊢
    rw [hold b (hlt _ hp)]; exact this
theorem law_lifted {K : Checked} {os : Os} (started : os.Started) {H : Type} {enc : TypeId × Value → H} {a : Assume} {fi : Nat} {fn : Func} {s : ChangeSpec} {fresh handsOn again : Bool} {laid : List (String × DataW Unit)} {gl : Nat → C} {t : TypeId}
    (own : ownKnob K.prog.godebug = none) (noInit : K.prog.inits.idxOf? fi = none) (hfn : K.prog.funcs[fi]? = some fn)
    (hl : laidOutB K.prog = true) (hm : mapsRowed K.prog = true) (hsl : slicesB K.prog = true) (hps : (fn.params.toList.all fun t => decide (t < K.prog.types.size)) = true)
    (hv : s.vars = []) (hs : ∀ ds : List (DataW H),ds.length = fn.params.size → s.fn H ds = { results := [.lit (.bool true)],args := ds }) (hr : fn.resultTypes = #[t]) (ht : K.prog.underlying t = some .bool)
    (witness : ∃ (w : World) (tape : Tape) (i : Input),w.os = os ∧ (w.forCall tape i).Shaped K.prog ∧ i.vars = [] ∧ Input.okWide K.prog (w.forCall tape i) .any w.heap.size fi i ∧
      ((s.pre enc K.prog fn [] false (w.forCall tape i).memory i.args ∧ laidMetH K.prog laid (w.forCall tape i).memory) ∧ sizedMet enc K.prog fn (OpenSpec.ofChange s) false (w.forCall tape i).memory i.args) ∧ a.holds K.prog (lone (Frame.enter K.prog fi i.args .normal) [] (w.forCall tape i)))
    (hgl : ∀ W,laidMetH K.prog laid W → ∀ g,Rep (GW W) (gl g) (.pointer (some ⟨g,0,none⟩)))
    (hc : ∀ (W : World) (b0 : Nat) (args : Array Value) (ds : List (DataW H)) (p : List MemPlace),(∀ (j : Nat) t v,fn.params.toList[j]? = some t → args.toList[j]? = some v → Value.okWide K.prog W .any b0 t v) →
      DataW.TrodAll enc K.prog W 0 (fun _ => true) true fn.params.toList args.toList ds p → ∃ az,RepL (GW W) az args.toList ∧ FC K.prog gl fi az [] (.val (.bool true)) []) :
    ReturnsInHanded a K os fi .any (fun w args => (s.pre enc K.prog fn [] false w args ∧ laidMetH K.prog laid w) ∧ sizedMet enc K.prog fn (OpenSpec.ofChange s) false w args) (s.post enc K.prog fn false fresh handsOn again) := by
  refine returnsInHanded_of_change_and (C := K) (X := fun w _ => laidMetH K.prog laid w) (fun _ _ _ hh h => laidMetH.of_heap hh h) own started noInit hfn witness ?_
  intro W base args ds gs before hval hW _ _ hL _
  have hW' := hW
  obtain ⟨p,q,h1,h2,rfl,hz,hn⟩ := hW'
  rw [hv] at h2
  obtain ⟨rfl,rfl⟩ := trodVars_none h2
  obtain ⟨az,has,hfc⟩ := hc W base args ds p (fun j t v hj hv => hval j t v (by simpa using hj) (by simpa using hv)) h1
  refine (hfc.2 (GW W) W args (GW_ok W) (fun g p h => by cases h) (hgl W hL) has).mono ?_
  rintro e W' ⟨v,G',rfl,hrep,_,_,F⟩
  rw [rep_val] at hrep
  subst hrep
  have hlen : ∀ (ts : List TypeId) (vs : List Value) (ds : List (DataW H)) (ps : List MemPlace),DataW.TrodAll enc K.prog W 0 (fun _ => true) true ts vs ds ps → ds.length = ts.length := by
    intro ts
    induction ts with
    | nil => intro vs ds ps h; cases vs <;> cases ds <;> simp_all [DataW.TrodAll]
    | cons t ts ih =>
      intro vs ds ps h
      cases vs <;> cases ds <;> simp only [DataW.TrodAll] at h
      obtain ⟨p,q,_,h4,_⟩ := h
      simp [ih _ _ _ h4]
  have hold : ∀ g < W.heap.size,W'.heap[g]? = W.heap[g]? := fun g hg => (F.old g hg rfl (fun b h => by cases h)).1
  refine ⟨_,rfl,law_post hl hm hsl (fun t ht => ?_) hW hv (hs ds (by rw [hlen _ _ _ _ h1]; simp)) hr ht F.os F.output hold⟩
  have := List.all_eq_true.1 hps t ht
  simpa using this
end Go.Sx
namespace Go.Sx
open Go.RowKit
section
variable (P : Program) (t : TypeId)
theorem i_add (x y : Int) (h : -9223372036854775808 ≤ x + y ∧ x + y < 9223372036854775808) : binPlan P .add t (.val (.int .i64 x)) (.val (.int .i64 y)) = some (vp (.val (.int .i64 (x + y)))) := by
  simp only [bin_int,sbin,ne_eq,not_true_eq_false,if_false,Option.map_some]
  rw [wrap_i64 _ (by omega) (by omega)]
theorem i_addn (x : Int) (y : Nat) (h : -9223372036854775808 ≤ x + y ∧ x + y < 9223372036854775808) : binPlan P .add t (.val (.int .i64 x)) (.val (nI y)) = some (vp (.val (.int .i64 (x + y)))) := i_add P t x y h
theorem i_sub (x y : Int) (h : -9223372036854775808 ≤ x - y ∧ x - y < 9223372036854775808) : binPlan P .sub t (.val (.int .i64 x)) (.val (.int .i64 y)) = some (vp (.val (.int .i64 (x - y)))) := by
  simp only [bin_int,sbin,ne_eq,not_true_eq_false,if_false,Option.map_some]
  rw [wrap_i64 _ (by omega) (by omega)]
theorem i_quo (x y : Int) (h : y ≠ 0 ∧ -9223372036854775808 ≤ x.tdiv y ∧ x.tdiv y < 9223372036854775808) : binPlan P .quo t (.val (.int .i64 x)) (.val (.int .i64 y)) = some (vp (.val (.int .i64 (x.tdiv y)))) := by
  simp only [bin_int,sbin,ne_eq,not_true_eq_false,if_false,Option.map_some,h.1]
  rw [wrap_i64 _ (by omega) (by omega)]
theorem i_quon (x : Int) (y : Nat) (h : 0 < y) (hx : -9223372036854775808 ≤ x ∧ x < 9223372036854775808) : binPlan P .quo t (.val (.int .i64 x)) (.val (nI y)) = some (vp (.val (.int .i64 (x.tdiv y)))) := by
  refine i_quo P t x y ⟨by omega,?_⟩
  have key : ∀ n : Nat,(n : Int).tdiv (y : Int) = ((n / y : Nat) : Int) := fun _ => rfl
  rcases Int.le_total 0 x with h0 | h0
  · obtain ⟨n,rfl⟩ := Int.eq_ofNat_of_zero_le h0
    rw [key]
    have := Nat.div_le_self n y
    generalize n / y = q at this ⊢
    omega
  · obtain ⟨n,hn⟩ := Int.eq_ofNat_of_zero_le (a := -x) (by omega)
    have e : x = -(n : Int) := by omega
    rw [e,Int.neg_tdiv,key]
    have := Nat.div_le_self n y
    generalize n / y = q at this ⊢
    omega
theorem i_rem (x y : Int) (h : y ≠ 0) : binPlan P .rem t (.val (.int .i64 x)) (.val (.int .i64 y)) = some (vp (.val (.int .i64 (x.tmod y)))) := by
  simp only [bin_int,sbin,ne_eq,not_true_eq_false,if_false,Option.map_some,h]
theorem i_remn (x : Int) (y : Nat) (h : 0 < y) : binPlan P .rem t (.val (.int .i64 x)) (.val (nI y)) = some (vp (.val (.int .i64 (x.tmod y)))) := i_rem P t x y (by omega)
theorem i_eql (x y : Int) : binPlan P .eql t (.val (.int .i64 x)) (.val (.int .i64 y)) = some (vp (.val (.bool (decide (x = y))))) := by
  simp only [bin_int,sbin,ne_eq,not_true_eq_false,if_false,Option.map_some]
  congr 4
theorem i_lss (x y : Int) : binPlan P .lss t (.val (.int .i64 x)) (.val (.int .i64 y)) = some (vp (.val (.bool (decide (x < y))))) := by
  simp only [bin_int,sbin,ne_eq,not_true_eq_false,if_false,Option.map_some]
theorem i_leq (x y : Int) : binPlan P .leq t (.val (.int .i64 x)) (.val (.int .i64 y)) = some (vp (.val (.bool (decide (x ≤ y))))) := by
  simp only [bin_int,sbin,ne_eq,not_true_eq_false,if_false,Option.map_some]
theorem i_geq (x y : Int) : binPlan P .geq t (.val (.int .i64 x)) (.val (.int .i64 y)) = some (vp (.val (.bool (decide (y ≤ x))))) := by
  simp only [bin_int,sbin,ne_eq,not_true_eq_false,if_false,Option.map_some]
theorem i_eqln (x : Int) (y : Nat) : binPlan P .eql t (.val (.int .i64 x)) (.val (nI y)) = some (vp (.val (.bool (decide (x = y))))) := i_eql P t x y
theorem i_lssn (x : Int) (y : Nat) : binPlan P .lss t (.val (.int .i64 x)) (.val (nI y)) = some (vp (.val (.bool (decide (x < y))))) := i_lss P t x y
theorem i_leqn (x : Int) (y : Nat) : binPlan P .leq t (.val (.int .i64 x)) (.val (nI y)) = some (vp (.val (.bool (decide (x ≤ y))))) := i_leq P t x y
theorem i_geqn (x : Int) (y : Nat) : binPlan P .geq t (.val (.int .i64 x)) (.val (nI y)) = some (vp (.val (.bool (decide ((y : Int) ≤ x))))) := i_geq P t x y
theorem un_negi (x : Int) (h : -9223372036854775808 < x ∧ x ≤ 9223372036854775808) : unPlan .neg (.val (.int .i64 x)) = some (vp (.val (.int .i64 (-x)))) := by
  show some (vp (.val (.int .i64 (IntKind.wrap .i64 (0 - x))))) = _
  rw [wrap_i64 _ (by omega) (by omega),Int.zero_sub]
end
theorem mm_max (x y : Nat) : minMax true (.val (nI x)) (.val (nI y)) = some (vp (.val (nI (max x y)))) := by
  simp only [minMax,nI,if_true]
  by_cases h : x < y
  · rw [if_pos (by omega),Nat.max_eq_right (by omega)]; rfl
  · rw [if_neg (by omega),Nat.max_eq_left (by omega)]; rfl
theorem CLe_int {x y : Int} (h : x = y) : CLe (.val (.int .i64 x)) (.val (.int .i64 y)) := h ▸ CLe.refl _
theorem CLe_inI {x : Int} {y : Nat} (h : x = y) : CLe (.val (.int .i64 x)) (.val (nI y)) := h ▸ CLe.refl _
theorem CLe_nIi {x : Nat} {y : Int} (h : (x : Int) = y) : CLe (.val (nI x)) (.val (.int .i64 y)) := h ▸ CLe.refl _
theorem CLe_nI {x y : Nat} (h : x = y) : CLe (.val (nI x)) (.val (nI y)) := h ▸ CLe.refl _
theorem CLe_sl {α : Type} {f : α → List C} {r : Rt} {l l' : List α} (h : l = l') : CLe (sl f r l) (sl f r l') := h ▸ CLe.refl _
theorem CLe_sln {α : Type} {f : α → List C} {r : Rt} {l : List α} (h : l = []) : CLe (.val (.slice none 0 0)) (sl f r l) := by subst h; exact CLe.nil _
end Go.Sx
namespace Go.Sx
open Go.RowKit
def noRefH (k : Nat) : Hp → Bool
  | [] => true
  | none :: h => noRefH k h
  | some cs :: h => noRefs k cs && noRefH k h
theorem noRefH_some (k : Nat) (cs : List C) (h : Hp) : noRefH k (some cs :: h) = (noRefs k cs && noRefH k h) := rfl
theorem noRefH_at (k : Nat) : ∀ (h : Hp) (b : Nat) (cells : List C),noRefH k h = true → h[b]? = some (some cells) → noRefs k cells = true
  | [],b,cells,_,hb => by simp at hb
  | none :: h,0,cells,_,hb => by simp at hb
  | some cs :: h,0,cells,hk,hb => by
    rw [noRefH_some,Bool.and_eq_true] at hk
    simp only [List.getElem?_cons_zero,Option.some.injEq] at hb
    subst hb; exact hk.1
  | x :: h,b + 1,cells,hk,hb => by
    rw [List.getElem?_cons_succ] at hb
    refine noRefH_at k h b cells ?_ hb
    cases x with
    | none => exact hk
    | some cs => rw [noRefH_some,Bool.and_eq_true] at hk; exact hk.2
theorem noRef_fn (k f : Nat) (xs : List C) : noRef k (.fn f xs) = noRefs k xs := rfl
end Go.Sx
namespace Go.Sx
open Go.RowKit
section
variable (P : Program)
def eqR (op : BinOp) (b : Bool) : Option Plan := match op with
  | .eql => some (vp (.val (.bool b)))
  | .neq => some (vp (.val (.bool (!b))))
  | _ => none
theorem eqR_eql (b : Bool) : eqR .eql b = some (vp (.val (.bool b))) := rfl
theorem eqR_neq (b : Bool) : eqR .neq b = some (vp (.val (.bool (!b)))) := rfl
theorem eqPlan_some {t : TypeId} {x y : List C} {b : Bool} (op : BinOp) (hg : P.eqGuardType P.depth t = false) (h : eqC P 9 t (.agg x) (.agg y) = some b) : binPlan P op t (.agg x) (.agg y) = eqR op b := by
  show eqPlan P op t (.agg x) (.agg y) = _
  unfold eqPlan
  rw [if_pos ⟨.inl ⟨rfl,rfl⟩,hg⟩]
  unfold eqR
  cases op <;> simp [h,vp,Plan.pure]
theorem eqC_int {t : TypeId} {k : IntKind} {s y : Nat} {z : List Value} (d : Nat) (h : td P t = some ⟨.int k,s,y,z⟩) (a b : Int) : eqC P (d + 1) t (.val (.int k a)) (.val (.int k b)) = some (decide (a = b)) := by
  unfold eqC; rw [h]; simp only [if_true]; congr 1
end
@[congr] theorem stG_congr {cx : Cx} {apps : List Nat} {dsts : List (Option Nat)} {l : List Oper} {id : Nat} {d : Option Nat} {e : List (Nat × C)} {h : Hp} {fs : List FP} {K : List FP → St → Prop} {ty : TypeId} {pos : String} {aft : Array Edge} {op : Op} {p p' : Option Bool} (hp : p = p') :
    stG cx apps dsts l id d e h fs K ty pos aft op p = stG cx apps dsts l id d e h fs K ty pos aft op p' := by rw [hp]
def wanV (c : C) (w : Bool) : Option Bool := match c with
  | .val (.bool b) => some (b == w)
  | .val (.tuple _) => some false
  | _ => none
def wanQ (d : Option (Option Nat)) (w : Bool) (e : List (Nat × C)) : Option Bool := match d.bind id with
  | none => some false
  | some t => wanV (A e t).noR w
theorem wanted_q (dsts : List (Option Nat)) (j : Nat) (w : Bool) (e : List (Nat × C)) : wantedA dsts (some (j,w)) (A e) = wanQ (dsts[j]?) w e := rfl
theorem wanQ_some (t : Nat) (w : Bool) (e : List (Nat × C)) : wanQ (some (some t)) w e = wanV (A e t).noR w := rfl
theorem wanV_T (b : Bool) : wanV (.val (.bool b)) true = some b := by cases b <;> rfl
theorem wanV_F (b : Bool) : wanV (.val (.bool b)) false = some (!b) := by cases b <;> rfl
theorem wanV_u (w : Bool) : wanV (.val undef) w = some false := rfl
end Go.Sx
namespace Go.Sx
open Go.RowKit
section
variable {cx : Cx} {G : Gh} {w : World} {st : St} {a : Act}
structure Lit (cx : Cx) (ops ops' : Array Oper) (k : Nat) : Prop where
  dst : ops'.toList.map (·.dst) = ops.toList.map (·.dst)
  app : ops'.toList.filterMap appOf = ops.toList.filterMap appOf
  cnt : ∀ i,cnt ops' i = cnt ops i
  same : ∀ i,i ≠ k + 1 → ops'[i]? = ops[i]?
  two : ∃ p q t n ps ty1 pos1 aft1 ty2 pos2 aft2 e s y z y2 z2,ops[k]? = some ⟨some p,.buildSlice t n ps,ty1,pos1,aft1,none⟩ ∧ ops[k + 1]? = some ⟨some q,.convert t t (.tmp p),ty2,pos2,aft2,none⟩ ∧
    ops'[k + 1]? = some ⟨some q,.move (.tmp p),ty2,pos2,aft2,none⟩ ∧ td cx.P t = some ⟨.slice e,s,y,z⟩ ∧ td cx.P e = some ⟨.int .u8,1,y2,z2⟩ ∧ cx.gr p = false
end
end Go.Sx
namespace Go.Sx
open Go.RowKit
class Inj {α : Type} (f : α → List C) : Prop where
  inj : ∀ a b,f a = f b → a = b
instance : Inj bC := ⟨fun a b h => by simpa [bC,w8_inj] using h⟩
instance : Inj wC := ⟨fun a b h => by simpa [wC,w32_inj] using h⟩
instance : Inj sC := ⟨fun a b h => by simpa [sC,str_inj] using h⟩
instance : Inj nC := ⟨fun a b h => by simpa [nC,nI_inj] using h⟩
instance : Inj iC := ⟨fun a b h => by simpa [iC] using h⟩
instance : Inj oC := ⟨fun a b h => by simpa [oC] using h⟩
theorem cl_inj {α : Type} {f : α → List C} {s : Nat} [hf : Cel f s] [hi : Inj f] : ∀ {l l' : List α},cl f l = cl f l' ↔ l = l' := by
  intro l l'
  constructor
  · induction l generalizing l' with
    | nil =>
      intro h
      cases l' with
      | nil => rfl
      | cons a l' =>
        have := congrArg List.length h
        rw [cl_nil,cl_cons,List.length_append,hf.len] at this
        have := hf.pos
        simp at *
        omega
    | cons a l ih =>
      intro h
      cases l' with
      | nil =>
        have := congrArg List.length h
        rw [cl_nil,cl_cons,List.length_append,hf.len] at this
        have := hf.pos
        simp at *
        omega
      | cons b l' =>
        rw [cl_cons,cl_cons] at h
        obtain ⟨h1,h2⟩ := List.append_inj h (by rw [hf.len,hf.len])
        rw [hi.inj _ _ h1,ih h2]
  · rintro rfl; rfl
theorem sl_inj {α : Type} {f : α → List C} {s : Nat} [hf : Cel f s] [hi : Inj f] {r : Rt} {l l' : List α} : sl f r l = sl f r l' ↔ l = l' := by
  constructor
  · intro h
    simp only [sl,C.sl.injEq,true_and] at h
    exact cl_inj.1 h.2
  · rintro rfl; rfl
end Go.Sx
namespace Go.Sx
open Go.RowKit
attribute [go_sem ↓] A_cons GB_true GB_false
attribute [go_sem] noRefs_f allocG_F callQ_some callQ_none callR_rd refBox_bp refBox_agg refBox_val oneB_nil rdPu_eq rdQ_some rdR_true frzs_nil frzs_cons frz_val frz_bp frzB_one noRef_val noRef_agg noRef_tup noRef_kp noRef_sl noRefs_cl noRefs_cons noRefs_nil noRefs_app flat_val flats_cl flats_app Bool.and_self Bool.and_true on_tmp on_const on_global on_func orw_tmp orw_const tmpq_tmp tmpq_const not_true_eq_false not_false_eq_true noR_val noR_full noR_no noR_bp noR_kp noR_agg noR_tup noR_fn noR_top noR_slno noR_slfull noR_slown run_nil run_mvt run_mvc run_asg run_pick run_alloc run_box run_build run_buildS run_load run_store run_bin run_un run_conv run_mkf run_mks run_slice run_fa run_ixa run_ix run_extr run_len run_app run_max run_call run_mkS run_mkN run_guard bump_move bump_pick bump_load bump_binOp bump_unOp bump_fieldAddr bump_indexAddr bump_index bump_call stV_vp stV_val0 stV_valk stV_rd stV_wr stV_xr stV_new stV_call stR_some stW_some0 stW_somek stC_some stN_some stG_some AN_true dOK_some dOK_none lit_w8o lit_nIo str_mk mvP isA_nil isA_cons Bool.or_false Bool.false_or Bool.true_or Bool.or_true beq_self_eq_true onM onP List.map_nil List.map_cons Option.map_none Option.map_some Option.bind_some Option.bind_none bin_bool binB_neq b_add b_sub b_eql b_lss b_leq b_gtr b_geq n_add n_sub n_mul n_quo n_rem n_eql n_neq n_lss n_gtr n_geq un_not s_eql s_add ne_eq wanted_q wanQ_some wanV_T wanV_F wanV_u eqR_eql eqR_neq eq_self decide_true decide_false Bool.not_true Bool.not_false i_add i_addn i_sub i_quo i_quon i_rem i_remn i_eql i_lss i_leq i_geq i_eqln i_lssn i_leqn i_geqn un_negi mm_max conv_td cv_vs cvV_u8 load_bp ldB_int ldB_str ldB_sl ldB_slo ldB_arr ldB_struct load_kp ldK_int ldK_str ldK_sl ldK_struct store_val store_agg store_sl stS_one stB_many cells_w8 cells_nI cells_int cells_str cells_bool cells_nil cells_agg cl_noR box_cs boxQ_some alloc_z alQ_true allOne_nil allOne_cons allOne_rep zc_nil zc_cons zc_rep one_nI one_str one_bool one_slice build_struct bldS_true plc_nil plc_cons plQ_some layS_nil layS_cons layQ_some layW_some rep_nI idx_nI bound_nI bound_none ixa_td ixS_some ixa_ab ixa_sv ixa_slT ixL_some inx_td inx_str inS_some len_td len_str len_sv len_sl Nat.mul_one Nat.zero_add Nat.add_zero slice_td sl2_none slS_some slP_slT slH_some app_td app_ss apQ_own apQ_full pick_tf pick_ff extractP callP shares List.append_nil share_w8 share_nI share_strs share_val share_bp share_agg share_slno share_slfull rds_cl wrc_full rda_full List.map_append build_arr buildA_n bs_slice bsA_n bsA_s lay1s_s lay1s_nil rep_str Nat.sub_zero Nat.zero_mul List.drop_zero List.drop_succ_cons List.take_succ_cons List.take_zero at_cons0 at_consS rdc_cons0 rdc_consS rdc_drop rdc_cl wrc_b wrs_one List.set_cons_zero List.set_cons_succ List.getElem?_cons_zero List.getElem?_cons_succ List.length_nil List.length_cons List.nil_append List.cons_append Nat.add_sub_cancel_left List.length_set List.length_replicate gt_def
end Go.Sx
namespace Go.Sx
open Go.RowKit Go.ChangeShapes
theorem trods_cons {H : Type} {enc : TypeId × Value → H} {P : Program} {W : World} {b : Nat} {sp : Nat → Bool} {hd : Bool} {t : TypeId} {ts : List TypeId} {vs : List Value} {ds : List (DataW H)} {ps : List MemPlace}
    (h : DataW.TrodAll enc P W b sp hd (t :: ts) vs ds ps) : ∃ v vs' d ds' p q,vs = v :: vs' ∧ ds = d :: ds' ∧ DataW.Trod enc P W b sp hd t v d p ∧ DataW.TrodAll enc P W b sp hd ts vs' ds' q := by
  cases vs <;> cases ds <;> simp only [DataW.TrodAll] at h
  obtain ⟨p,q,h1,h2,_⟩ := h
  exact ⟨_,_,_,_,p,q,rfl,rfl,h1,h2⟩
theorem trods_nil {H : Type} {enc : TypeId × Value → H} {P : Program} {W : World} {b : Nat} {sp : Nat → Bool} {hd : Bool} {vs : List Value} {ds : List (DataW H)} {ps : List MemPlace}
    (h : DataW.TrodAll enc P W b sp hd [] vs ds ps) : vs = [] := by
  cases vs <;> cases ds <;> simp only [DataW.TrodAll] at h <;> rfl
def AR (P : Program) (t : TypeId) {α : Type} (g : α → C) (ok : α → Prop) : Prop :=
  ∀ {H : Type} {enc : TypeId × Value → H} {W : World} {base b0 : Nat} {sp : Nat → Bool} {held : Bool} {v : Value} {d : DataW H} {ps : List MemPlace},
    Value.okWide P W .any b0 t v → DataW.Trod enc P W base sp held t v d ps → ∃ a,ok a ∧ Rep (GW W) (g a) v
section
variable {P : Program} {t e : TypeId}
theorem ar_int {s y : Nat} {z : List Value} (h : td P t = some ⟨.int .i64,s,y,z⟩) : AR P t (fun n : Int => .val (.int .i64 n)) fun n => -9223372036854775808 ≤ n ∧ n ≤ 9223372036854775807 :=
  fun h1 h2 => arg_one (f := iC) (fun _ => rfl) (rds_int (td_spec h).1) (fun u hu => by rw [(td_spec h).1] at hu; cases hu; trivial) h1 h2
theorem ar_slice {α : Type} {f : α → List C} {ok : α → Prop} {s0 s y : Nat} [hf : Cel f s0] {z : List Value} (h : td P t = some ⟨.slice e,s,y,z⟩) (hc : P.cellsOf e = s0) (he : Rds P e f ok) : AR P t (fun l : List α => sl f .no l) fun l => l.length ≤ 9223372036854775807 ∧ ∀ a ∈ l,ok a :=
  fun h1 h2 => arg_one (f := fun l => [sl f .no l]) (fun _ => rfl) (rds_slice (td_spec h).1 hc he) (fun u hu => by rw [(td_spec h).1] at hu; cases hu; trivial) h1 h2
end
end Go.Sx
namespace Go.Sx
attribute [go_sem] one_nI one_str one_bool one_slice refy_sv refy_bp refy_agg refy_val refy_kp refy_tsl cl_len thenQ_r blockQ_r EndsR_r resL_one resC_tmp resC_cell rcP_int rcP_bool rcP_arr rcP_struct Le_nil Le_cons CLe_refl CLe_top CLe_full CLe_nil CLe_own ev_tmp ev_const condG_bool noRef_fn true_and and_true
end Go.Sx
