/-
   And what follows.
-/
import Derived.Test.YtcpdlhgkdogdjaaDoorPak
set_option linter.unusedSimpArgs false
set_option linter.unusedVariables false
namespace Go.Sx
open Go.RowKit
theorem asSv_val (v : Value) : (C.val v).asSv = .val v := rfl
theorem asSv_sl (r : Rt) (n : Nat) (xs : List C) : (C.sl r n xs).asSv = .sl r n xs := rfl
theorem asSv_tsl {α : Type} (f : α → List C) (r : Rt) (l : List α) : (sl f r l).asSv = sl f r l := rfl
theorem asSv_gv (b n : Nat) (s : Nat × Nat) : (C.gv b n s).asSv = .sv b 0 n := rfl
theorem asSv_bp (b o : Nat) : (C.bp b o).asSv = .bp b o := rfl
theorem noR_gv (b n : Nat) (s : Nat × Nat) : (C.gv b n s).noR = .gv b n s := rfl
theorem cells_gv (b n : Nat) (s : Nat × Nat) : (C.gv b n s).cells? = some [.gv b n s] := rfl
theorem refy_gv (b n : Nat) (s : Nat × Nat) (l : List C) : refy (.gv b n s :: l) = true := rfl
theorem isG_grow (cx : Cx) (l : List Nat) (d : Option Nat) : isG (cx.grow l) d = isA l d := by cases d <;> rfl
theorem grow_P (cx : Cx) (l : List Nat) : (cx.grow l).P = cx.P := rfl
theorem grow_N (cx : Cx) (l : List Nat) : (cx.grow l).N = cx.N := rfl
theorem grow_pu (cx : Cx) (l : List Nat) : (cx.grow l).pu = cx.pu := rfl
theorem grow_hp (cx : Cx) (l : List Nat) : (cx.grow l).hp = cx.hp := rfl
theorem sliceP_tsl {α : Type} (f : α → List C) (P : Program) (t : TypeId) (r : Rt) (l : List α) (lo hi mx : Option C) : sliceP P t (sl f r l) lo hi mx = slicePlan P t (sl f r l) lo hi mx := rfl
def sgP (P : Program) (t : Option TD) (b n : Nat) (s : Nat × Nat) (hi : Option C) : Option Plan := match t with
  | some d => match d.u with
    | .slice e => match td P e,bound? hi n n with
      | some de,some h => if (de.size,e) = s then some (vp (.gv b h s)) else none
      | _,_ => none
    | _ => none
  | none => none
def gwQ (e : Nat) (de : Option TD) (x y : C) : Option Plan := match de with
  | none => none
  | some de =>
    let start : Option (Nat × Option (Nat × Nat)) := match x with
      | .val (.slice none 0 0) => some (0,none)
      | .sl .full 0 _ => some (0,none)
      | .gv b n s => if s = (de.size,e) then some (n,some (b,n)) else none
      | _ => none
    match start with
    | none => none
    | some (n,b) =>
      let fin (m : Nat) (ys : List C) : Bool := decide (ys.length = m * de.size ∧ 0 < de.size ∧ de.zero.length = de.size ∧ (n + m) * de.bytes ≤ 140737488355328 ∧ n + m ≤ 9223372036854775807 ∧ de.zero.all (·.oneCell') = true)
      match y with
      | .sv b' off m => some (.ap b (de.size,e) m fun h => (h.at b').bind fun cells => if off + m * de.size ≤ cells.length ∧ fin m (((cells.drop off).take (m * de.size)).map C.noR) = true then some (((cells.drop off).take (m * de.size)).map C.noR) else none)
      | y => match src? y with
        | some (m,ys) => if fin m ys = true then some (.ap b (de.size,e) m fun _ => some ys) else none
        | none => none
def gwP (P : Program) (d d2 : Option TD) (x y : C) : Option Plan := match d,d2 with
  | some d,some d2 =>
    if notInt d2.u = false then growInt P d d2 x y else
    match d.u with
    | .slice e => gwQ e (td P e) x y
    | _ => none
  | _,_ => none
theorem gw_td (P : Program) (t t2 : TypeId) (x y : C) : growPlan P t t2 x y = gwP P (td P t) (td P t2) x y := rfl
theorem gw_si (P : Program) (e a1 b1 a2 b2 : Nat) (z1 z2 : List Value) (x y : C) : gwP P (some ⟨.slice e,a1,b1,z1⟩) (some ⟨.int .i64,a2,b2,z2⟩) x y = growInt P ⟨.slice e,a1,b1,z1⟩ ⟨.int .i64,a2,b2,z2⟩ x y := rfl
theorem gw_ss (P : Program) (e e2 a1 b1 a2 b2 : Nat) (z1 z2 : List Value) (x y : C) : gwP P (some ⟨.slice e,a1,b1,z1⟩) (some ⟨.slice e2,a2,b2,z2⟩) x y = gwQ e (td P e) x y := rfl
section
variable {α : Type} (f : α → List C) {s : Nat} [hf : Cel f s] (e : Nat) (u : TypeDesc) (y : Nat) (z : List Value)
theorem gw_fin (n : Nat) (l' : List α) (hz : z.length = s) (hz1 : z.all (·.oneCell') = true) (h : (n + l'.length) * y ≤ 140737488355328 ∧ n + l'.length ≤ 9223372036854775807) :
    decide ((cl f l').length = l'.length * s ∧ 0 < s ∧ z.length = s ∧ (n + l'.length) * y ≤ 140737488355328 ∧ n + l'.length ≤ 9223372036854775807 ∧ z.all (·.oneCell') = true) = true := by
  simp only [decide_eq_true_eq]
  exact ⟨cl_len (f := f) l',hf.pos,hz,h.1,h.2,hz1⟩
theorem gwQ_gv (b n : Nat) (r : Rt) (l' : List α) (hz : z.length = s) (hz1 : z.all (·.oneCell') = true) (h : (n + l'.length) * y ≤ 140737488355328 ∧ n + l'.length ≤ 9223372036854775807) :
    gwQ e (some ⟨u,s,y,z⟩) (.gv b n (s,e)) (sl f r l') = some (.ap (some (b,n)) (s,e) l'.length fun _ => some (cl f l')) := by
  have e := gw_fin f y z n l' hz hz1 h
  simp only [gwQ,if_true,sl,src?,C.sl?]
  rw [if_pos e]
end
theorem cgP_td (P : Program) (s t : TypeId) (c : C) : convG P s t c = (match td P s,td P t with
    | some ds,some dd => match ds.u,dd.u,c with
      | .string,.slice e,.val (.string s) => match td P e with
        | some de => (match de.u with
          | .int .u8 => if s.size ≤ 140737488355328 then some (.ap none (1,e) s.size fun _ => some (s.data.toList.map byteC)) else none
          | _ => none)
        | none => none
      | _,_,_ => none
    | _,_ => none) := rfl
def cgP (P : Program) (d d2 : Option TD) (c : C) : Option Plan := match d,d2 with
    | some ds,some dd => match ds.u,dd.u,c with
      | .string,.slice e,.val (.string s) => match td P e with
        | some de => (match de.u with
          | .int .u8 => if s.size ≤ 140737488355328 then some (.ap none (1,e) s.size fun _ => some (s.data.toList.map byteC)) else none
          | _ => none)
        | none => none
      | _,_,_ => none
    | _,_ => none
theorem cg_td (P : Program) (s t : TypeId) (c : C) : convG P s t c = cgP P (td P s) (td P t) c := rfl
def cgB (e : Nat) (t : Option TD) (l : List UInt8) : Option Plan := match t with
  | some de => (match de.u with
    | .int .u8 => if l.length ≤ 140737488355328 then some (.ap none (1,e) l.length fun _ => some (cl bC l)) else none
    | _ => none)
  | none => none
theorem cgP_sb (P : Program) (e a1 b1 a2 b2 : Nat) (z1 z2 : List Value) (l : List UInt8) : cgP P (some ⟨.string,a1,b1,z1⟩) (some ⟨.slice e,a2,b2,z2⟩) (.val (str l)) = cgB e (td P e) l := by
  unfold cgP cgB str
  simp only [size_mk,List.toList_toArray,cl_bytes]
theorem cgB_u8 (e a b : Nat) (z : List Value) (l : List UInt8) (h : l.length ≤ 140737488355328) : cgB e (some ⟨.int .u8,a,b,z⟩) l = some (.ap none (1,e) l.length fun _ => some (cl bC l)) := if_pos h
section
variable (cx : Cx) (apps : List Nat) (dsts : List (Option Nat)) (l : List Oper) (id' : Nat) (d : Option Nat) (e : List (Nat × C)) (h : Hp) (fs : List FP) (K : List FP → St → Prop)
def nR : List C → List C := List.map C.noR
def stAB (b n : Nat) (s : Nat × Nat) (m : Nat) (cs : List C) (o : Option (List C)) : Prop := match o with
  | none => False
  | some cells =>
    if (n + m) * s.1 ≤ cells.length ∧ (n ≠ 0 ∨ m = 0) then run cx apps dsts l id' (mkE d (.gv b (n + m) s) e) (h.set b (some (splice cells (n * s.1) (cs.map C.noR)))) ((4,0) :: fs) K
    else if n * s.1 = cells.length then run cx apps dsts l id' (mkE d (.gv h.length (n + m) s) e) (h.set b (some deadC) ++ [some ((cells ++ cs).map C.noR)]) ((4,0) :: fs) K
    else if n = 0 then run cx apps dsts l id' (mkE d (.gv h.length (n + m) s) e) (h.set b (some deadC) ++ [some (cs.map C.noR)]) ((4,0) :: fs) K else False
theorem stA_new (z : FP) (s : Nat × Nat) (m : Nat) (cs : List C) : stA cx apps dsts l id' d e h fs K z none s m (some cs) = run cx apps dsts l id' (mkE d (.gv h.length m s) e) (h ++ [some (nR cs)]) (z :: fs) K := rfl
theorem stA_old (z : FP) (b n : Nat) (s : Nat × Nat) (m : Nat) (cs : List C) : stA cx apps dsts l id' d e h fs K z (some (b,n)) s m (some cs) = stAB cx apps dsts l id' d e h fs K b n s m cs (h.at b) := rfl
theorem stAB_cl {α : Type} (f : α → List C) {s : Nat} [hf : Cel f s] (e' b n m : Nat) (xs ys : List α) (hn : n = xs.length) (hm : m = ys.length ∧ 0 < m) :
    stAB cx apps dsts l id' d e h fs K b n (s,e') m (cl f ys) (some (cl f xs)) = run cx apps dsts l id' (mkE d (.gv h.length (xs ++ ys).length (s,e')) e) (h.set b (some deadC) ++ [some (cl f (xs ++ ys))]) ((4,0) :: fs) K := by
  obtain ⟨hm1,hm2⟩ := hm
  subst hn hm1
  have hp := hf.pos
  have hl := cl_len (f := f) xs
  have hml : s ≤ ys.length * s := by
    have := Nat.mul_le_mul_right s (show 1 ≤ ys.length by omega)
    omega
  unfold stAB
  simp only []
  rw [if_neg (by rw [hl,Nat.add_mul]; omega),if_pos hl.symm,← cl_app,cl_noR,List.length_append]
end
@[congr] theorem stA_congr {cx : Cx} {apps : List Nat} {dsts : List (Option Nat)} {l : List Oper} {id' : Nat} {d : Option Nat} {e : List (Nat × C)} {h : Hp} {fs : List FP} {K : List FP → St → Prop} {z : FP} {b : Option (Nat × Nat)} {s : Nat × Nat} {m : Nat} {p p' : Option (List C)} (hp : p = p') :
    stA cx apps dsts l id' d e h fs K z b s m p = stA cx apps dsts l id' d e h fs K z b s m p' := by rw [hp]
@[congr] theorem stAB_congr {cx : Cx} {apps : List Nat} {dsts : List (Option Nat)} {l : List Oper} {id' : Nat} {d : Option Nat} {e : List (Nat × C)} {h : Hp} {fs : List FP} {K : List FP → St → Prop} {b n : Nat} {s : Nat × Nat} {m : Nat} {cs : List C} {p p' : Option (List C)} (hp : p = p') :
    stAB cx apps dsts l id' d e h fs K b n s m cs p = stAB cx apps dsts l id' d e h fs K b n s m cs p' := by rw [hp]
theorem nR_cl {α : Type} (f : α → List C) {s : Nat} [hf : Cel f s] (l : List α) : nR (cl f l) = cl f l := cl_noR l
theorem nR_nil : nR [] = [] := rfl
theorem nR_cons (c : C) (l : List C) : nR (c :: l) = c.noR :: nR l := rfl
theorem gif_T (p q : Option Plan) : gif true p q = p := rfl
theorem gif_F (p q : Option Plan) : gif false p q = q := rfl
theorem loc_nil (k b : Nat) : loc [] k b = none := rfl
theorem loc_cons (x : Nat) (r : List Nat) (k b : Nat) : loc (x :: r) k b = if b = x then some k else loc r (k + 1) b := rfl
def mvGv (n : Nat) (s : Nat × Nat) : Option Nat → C
  | some j => .gv j n s
  | none => .top
def mvSv (o n : Nat) : Option Nat → C
  | some j => .sv j o n
  | none => .top
def mvBp (o : Nat) : Option Nat → C
  | some j => .bp j o
  | none => .top
theorem mvC_gv (ρ : List Nat) (b n : Nat) (s : Nat × Nat) : mvC ρ (.gv b n s) = mvGv n s (loc ρ 0 b) := by simp only [mvC]; cases loc ρ 0 b <;> rfl
theorem mvC_sv (ρ : List Nat) (b o n : Nat) : mvC ρ (.sv b o n) = mvSv o n (loc ρ 0 b) := by simp only [mvC]; cases loc ρ 0 b <;> rfl
theorem mvC_bp (ρ : List Nat) (b o : Nat) : mvC ρ (.bp b o) = mvBp o (loc ρ 0 b) := by simp only [mvC]; cases loc ρ 0 b <;> rfl
theorem mvGv_some (n : Nat) (s : Nat × Nat) (j : Nat) : mvGv n s (some j) = .gv j n s := rfl
theorem mvGv_none (n : Nat) (s : Nat × Nat) : mvGv n s none = .top := rfl
theorem mvSv_some (o n j : Nat) : mvSv o n (some j) = .sv j o n := rfl
theorem mvSv_none (o n : Nat) : mvSv o n none = .top := rfl
theorem mvBp_some (o j : Nat) : mvBp o (some j) = .bp j o := rfl
theorem mvBp_none (o : Nat) : mvBp o none = .top := rfl
theorem mvC_val (ρ : List Nat) (v : Value) : mvC ρ (.val v) = .val v := by simp only [mvC]
theorem mvC_top (ρ : List Nat) : mvC ρ .top = .top := by simp only [mvC]
theorem mvC_agg (ρ : List Nat) (xs : List C) : mvC ρ (.agg xs) = .agg (mvCs ρ xs) := by simp only [mvC]
theorem mvC_kp (ρ : List Nat) (xs : List C) : mvC ρ (.kp xs) = .kp (mvCs ρ xs) := by simp only [mvC]
theorem mvC_fn (ρ : List Nat) (f : Nat) (xs : List C) : mvC ρ (.fn f xs) = .fn f (mvCs ρ xs) := by simp only [mvC]
theorem mvCs_nil (ρ : List Nat) : mvCs ρ [] = [] := by simp only [mvCs]
theorem mvCs_cons (ρ : List Nat) (c : C) (l : List C) : mvCs ρ (c :: l) = mvC ρ c :: mvCs ρ l := by simp only [mvCs]
mutual
theorem mvC_nr (ρ : List Nat) : ∀ c : C,noRef 0 c = true → mvC ρ c = c
  | .val _,_ => by simp only [mvC]
  | .top,_ => by simp only [mvC]
  | .agg xs,h => by simp only [noRef] at h; simp only [mvC,mvCs_nr ρ xs h]
  | .tup xs,h => by simp only [noRef] at h; simp only [mvC,mvCs_nr ρ xs h]
  | .kp xs,h => by simp only [noRef] at h; simp only [mvC,mvCs_nr ρ xs h]
  | .sl _ _ xs,h => by simp only [noRef] at h; simp only [mvC,mvCs_nr ρ xs h]
  | .fn _ xs,h => by simp only [noRef] at h; simp only [mvC,mvCs_nr ρ xs h]
  | .sv _ _ _,h => by simp [noRef] at h
  | .gv _ _ _,h => by simp [noRef] at h
  | .bp _ _,h => by simp [noRef] at h
  | .bt _ _ _,h => by simp [noRef] at h
  | .mp _,h => by simp [noRef] at h
theorem mvCs_nr (ρ : List Nat) : ∀ l : List C,noRefs 0 l = true → mvCs ρ l = l
  | [],_ => by simp only [mvCs]
  | x :: xs,h => by simp only [noRefs,Bool.and_eq_true] at h; simp only [mvCs,mvC_nr ρ x h.1,mvCs_nr ρ xs h.2]
end
theorem mvCs_cl {α : Type} (f : α → List C) [h : Nrf f] (ρ : List Nat) (l : List α) : mvCs ρ (cl f l) = cl f l := mvCs_nr ρ _ (noRefs_cl f 0 l)
theorem mvCs_f {α : Type} (f : α → List C) [h : Nrf f] (ρ : List Nat) (a : α) : mvCs ρ (f a) = f a := mvCs_nr ρ _ (h.nr 0 a)
theorem mvC_sl {α : Type} (f : α → List C) [h : Nrf f] (ρ : List Nat) (r : Rt) (l : List α) : mvC ρ (sl f r l) = sl f r l := by
  unfold sl; simp only [mvC,mvCs_cl]
def hget : Hp → Nat → Option (List C)
  | [],_ => none
  | o :: _,0 => o
  | _ :: h,k + 1 => hget h k
theorem hget_eq : ∀ (h : Hp) (k : Nat),(h[k]?).getD none = hget h k
  | [],_ => rfl
  | o :: _,0 => rfl
  | _ :: h,k + 1 => by rw [List.getElem?_cons_succ]; exact hget_eq h k
theorem hget_0 (o : Option (List C)) (h : Hp) : hget (o :: h) 0 = o := rfl
theorem hget_S (o : Option (List C)) (h : Hp) (k : Nat) : hget (o :: h) (k + 1) = hget h k := rfl
def mvHa (ρ : List Nat) (h : Hp) : List Nat → Hp
  | [] => []
  | x :: r => (hget h x).map (mvCs ρ) :: mvHa ρ h r
theorem mvH_eq (ρ : List Nat) (h : Hp) : mvH ρ h = mvHa ρ h ρ := by
  have key : ∀ r : List Nat,(r.map fun b => ((h[b]?).getD none).map (mvCs ρ)) = mvHa ρ h r := by
    intro r
    induction r with
    | nil => rfl
    | cons x r ih => rw [List.map_cons,ih,hget_eq]; rfl
  exact key ρ
theorem mvHa_nil (ρ : List Nat) (h : Hp) : mvHa ρ h [] = [] := rfl
theorem mvHa_cons (ρ : List Nat) (h : Hp) (x : Nat) (r : List Nat) : mvHa ρ h (x :: r) = (hget h x).map (mvCs ρ) :: mvHa ρ h r := rfl
def mapE (g : C → C) : List (Nat × C) → List (Nat × C)
  | [] => []
  | (k,c) :: l => (k,g c) :: mapE g l
theorem mapE_nil (g : C → C) : mapE g [] = [] := rfl
theorem mapE_cons (g : C → C) (k : Nat) (c : C) (l : List (Nat × C)) : mapE g ((k,c) :: l) = (k,g c) :: mapE g l := rfl
theorem mapE_A (g : C → C) (hg : g .top = .top) : ∀ l : List (Nat × C),(fun t => g (A l t)) = A (mapE g l)
  | [] => by funext t; exact hg
  | (k,c) :: l => by
    funext t
    simp only [A,mapE]
    split
    · rfl
    · exact congrFun (mapE_A g hg l) t
theorem Tr.fzA {cx : Cx} {n : Nat} {Q : Ex → St → Prop} {e : List (Nat × C)} {h : Hp} (hcx : CxOK cx) {c : Code} (b : Nat) (cells : List C) (hb : h.at b = some cells) (hnb : n ≤ b) (hn : ∀ j,j < n → ((h.at j).isSome || (h.mp j).isSome) = true ∨ h[j]? = some none)
    (K : Tr cx n c ⟨A (mapE (fzC (okF h b) b (fzY h b cells)) e),fzH (okF h b) b (fzY h b cells) h⟩ Q) : Tr cx n c ⟨A e,h⟩ Q := by
  refine Tr.fz hcx b hb hnb hn ?_
  rw [mapE_A _ (by simp only [fzC])]
  exact K
theorem Tr.mvA {cx : Cx} {n : Nat} {Q : Ex → St → Prop} {e : List (Nat × C)} {h : Hp} (hcx : CxOK cx) {c : Code} (ρ : List Nat) (hρ : okρ n ρ) (K : Tr cx n c ⟨A (mapE (mvC ρ) e),mvH ρ h⟩ Q) : Tr cx n c ⟨A e,h⟩ Q := by
  refine Tr.mv hcx ρ hρ ?_
  rw [mapE_A _ (mvC_top ρ)]
  exact K
theorem fzC_val (ok : Nat → Bool) (b : Nat) (ys : List C) (v : Value) : fzC ok b ys (.val v) = .val v := by simp only [fzC]
theorem fzC_top (ok : Nat → Bool) (b : Nat) (ys : List C) : fzC ok b ys .top = .top := by simp only [fzC]
theorem fzC_agg (ok : Nat → Bool) (b : Nat) (ys xs : List C) : fzC ok b ys (.agg xs) = .agg (fzCs ok b ys xs) := by simp only [fzC]
theorem fzC_tup (ok : Nat → Bool) (b : Nat) (ys xs : List C) : fzC ok b ys (.tup xs) = .tup (fzCs ok b ys xs) := by simp only [fzC]
theorem fzC_kp (ok : Nat → Bool) (b : Nat) (ys xs : List C) : fzC ok b ys (.kp xs) = .kp (fzCs ok b ys xs) := by simp only [fzC]
theorem fzC_fn (ok : Nat → Bool) (b : Nat) (ys : List C) (f : Nat) (xs : List C) : fzC ok b ys (.fn f xs) = .fn f (fzCs ok b ys xs) := by simp only [fzC]
theorem fzCs_nil (ok : Nat → Bool) (b : Nat) (ys : List C) : fzCs ok b ys [] = [] := by simp only [fzCs]
theorem fzCs_cons (ok : Nat → Bool) (b : Nat) (ys : List C) (x : C) (xs : List C) : fzCs ok b ys (x :: xs) = fzC ok b ys x :: fzCs ok b ys xs := by simp only [fzCs]
mutual
theorem fzC_nr (ok : Nat → Bool) (b : Nat) (ys : List C) : ∀ c : C,noRef 0 c = true → fzC ok b ys c = c
  | .val _,_ => by simp only [fzC]
  | .top,_ => by simp only [fzC]
  | .agg xs,h => by simp only [noRef] at h; simp only [fzC,fzCs_nr ok b ys xs h]
  | .tup xs,h => by simp only [noRef] at h; simp only [fzC,fzCs_nr ok b ys xs h]
  | .kp xs,h => by simp only [noRef] at h; simp only [fzC,fzCs_nr ok b ys xs h]
  | .sl _ _ xs,h => by simp only [noRef] at h; simp only [fzC,fzCs_nr ok b ys xs h]
  | .fn _ xs,h => by simp only [noRef] at h; simp only [fzC,fzCs_nr ok b ys xs h]
  | .sv _ _ _,h => by simp [noRef] at h
  | .gv _ _ _,h => by simp [noRef] at h
  | .bp _ _,h => by simp [noRef] at h
  | .bt _ _ _,h => by simp [noRef] at h
  | .mp _,h => by simp [noRef] at h
theorem fzCs_nr (ok : Nat → Bool) (b : Nat) (ys : List C) : ∀ l : List C,noRefs 0 l = true → fzCs ok b ys l = l
  | [],_ => by simp only [fzCs]
  | x :: xs,h => by simp only [noRefs,Bool.and_eq_true] at h; simp only [fzCs,fzC_nr ok b ys x h.1,fzCs_nr ok b ys xs h.2]
end
mutual
theorem scr_nr (ok : Nat → Bool) : ∀ c : C,noRef 0 c = true → scr ok c = c
  | .val _,_ => by simp only [scr]
  | .top,_ => by simp only [scr]
  | .agg xs,h => by simp only [noRef] at h; simp only [scr,scrs_nr ok xs h]
  | .tup xs,h => by simp only [noRef] at h; simp only [scr,scrs_nr ok xs h]
  | .kp xs,h => by simp only [noRef] at h; simp only [scr,scrs_nr ok xs h]
  | .sl _ _ xs,h => by simp only [noRef] at h; simp only [scr,scrs_nr ok xs h]
  | .fn _ xs,h => by simp only [noRef] at h; simp only [scr,scrs_nr ok xs h]
  | .sv _ _ _,h => by simp [noRef] at h
  | .gv _ _ _,h => by simp [noRef] at h
  | .bp _ _,h => by simp [noRef] at h
  | .bt _ _ _,h => by simp [noRef] at h
  | .mp _,h => by simp [noRef] at h
theorem scrs_nr (ok : Nat → Bool) : ∀ l : List C,noRefs 0 l = true → scrs ok l = l
  | [],_ => by simp only [scrs]
  | x :: xs,h => by simp only [noRefs,Bool.and_eq_true] at h; simp only [scrs,scr_nr ok x h.1,scrs_nr ok xs h.2]
end
theorem fzCs_cl {α : Type} (f : α → List C) [h : Nrf f] (ok : Nat → Bool) (b : Nat) (ys : List C) (l : List α) : fzCs ok b ys (cl f l) = cl f l := fzCs_nr ok b ys _ (noRefs_cl f 0 l)
theorem fzCs_f {α : Type} (f : α → List C) [h : Nrf f] (ok : Nat → Bool) (b : Nat) (ys : List C) (a : α) : fzCs ok b ys (f a) = f a := fzCs_nr ok b ys _ (h.nr 0 a)
theorem fzC_sl {α : Type} (f : α → List C) [h : Nrf f] (ok : Nat → Bool) (b : Nat) (ys : List C) (r : Rt) (l : List α) : fzC ok b ys (sl f r l) = sl f r l := by
  unfold sl; simp only [fzC,fzCs_cl]
theorem fzY_cl {α : Type} (f : α → List C) {s : Nat} [hc : Cel f s] [h : Nrf f] (hp : Hp) (b : Nat) (l : List α) : fzY hp b (cl f l) = cl f l := by
  unfold fzY; rw [scrs_nr _ _ (noRefs_cl f 0 l),cl_noR]
def fzGv (ys : List C) (n : Nat) (s : Nat × Nat) : C := if n * s.1 ≤ ys.length then .sl .no n (ys.take (n * s.1)) else .top
theorem fzC_gv (ok : Nat → Bool) (b : Nat) (ys : List C) (b' n : Nat) (s : Nat × Nat) : fzC ok b ys (.gv b' n s) = if b' = b then fzGv ys n s else if ok b' = true then .gv b' n s else .top := by simp only [fzC,fzGv]
theorem fzGv_cl {α : Type} (f : α → List C) {s : Nat} [hc : Cel f s] (e : Nat) (l : List α) (n : Nat) (h : n = l.length) : fzGv (cl f l) n (s,e) = sl f .no l := by
  subst h
  have hl := cl_len (f := f) l
  unfold fzGv
  simp only []
  rw [if_pos (by omega),List.take_of_length_le (by omega)]; rfl
theorem okF_eq (h : Hp) (b b' : Nat) : okF h b b' = (((h.at b').isSome || (h.mp b').isSome) && b' != b) := rfl
attribute [go_sem] asSv_val asSv_sl asSv_tsl asSv_gv asSv_bp noR_gv cells_gv refy_gv isG_grow grow_P grow_N grow_pu grow_hp sliceP_tsl gw_td gw_ss gw_si gwQ_gv cg_td cgP_sb cgB_u8 stV_ap stA_new stA_old stAB_cl nR_cl nR_nil nR_cons gif_T gif_F live_dead live_val live_sl live_gv live_tsl live_cl live_f live_clL bs_sliceG
theorem Tr.cT {cx : Cx} {n : Nat} {Q : Ex → St → Prop} {e : List (Nat × C)} {h : Hp} {t : Nat} {x y : Code} (ht : A e t = .val (.bool true)) (H : Tr cx n x ⟨A e,h⟩ Q) : Tr cx n (.cond (.tmp t) x y) ⟨A e,h⟩ Q :=
  Tr.condG fun KT KF hT hF => by rw [ev_tmp,ht,condG_bool]; exact .pos rfl (hT H)
theorem Tr.cF {cx : Cx} {n : Nat} {Q : Ex → St → Prop} {e : List (Nat × C)} {h : Hp} {t : Nat} {x y : Code} (ht : A e t = .val (.bool false)) (H : Tr cx n y ⟨A e,h⟩ Q) : Tr cx n (.cond (.tmp t) x y) ⟨A e,h⟩ Q :=
  Tr.condG fun KT KF hT hF => by rw [ev_tmp,ht,condG_bool]; exact .neg rfl (hF H)
theorem Tr.cD {cx : Cx} {n : Nat} {Q : Ex → St → Prop} {e : List (Nat × C)} {h : Hp} {t : Nat} {x y : Code} {p : Prop} {d : Decidable p} (ht : A e t = .val (.bool (@decide p d))) (H1 : p → Tr cx n x ⟨A e,h⟩ Q) (H2 : ¬ p → Tr cx n y ⟨A e,h⟩ Q) : Tr cx n (.cond (.tmp t) x y) ⟨A e,h⟩ Q :=
  Tr.condG fun KT KF hT hF => by rw [ev_tmp,ht,condG_bool]; exact .dec (fun q => hT (H1 q)) (fun q => hF (H2 q))
theorem lA {α : Type} (xs ys : List α) : (xs ++ ys).length = xs.length + ys.length := List.length_append
theorem lD {α : Type} (n : Nat) (xs : List α) : (xs.drop n).length = xs.length - n := List.length_drop
theorem lT {α : Type} (n : Nat) (xs : List α) : (xs.take n).length = min n xs.length := List.length_take
end Go.Sx
namespace Go.Sx
open Go.RowKit
def frhR (b : Bool) (c : C) (h : Hp) : Option (C × Hp) := if b then some (c,h) else none
def frhQ (b : Bool) (o : Option C) (h : Hp) : Option (C × Hp) := if b then (match o with
  | some c => frhR (flat c) c h
  | none => none) else none
@[congr] theorem frhQ_congr {b b' : Bool} {o o' : Option C} {h : Hp} (hb : b = b') (ho : b' = true → o = o') : frhQ b o h = frhQ b' o' h := by
  subst hb
  cases b with
  | false => rfl
  | true => rw [ho rfl]
theorem store_tsl {P : Program} {α : Type} (f : α → List C) (t : TypeId) (b o : Nat) (r : Rt) (l : List α) (k : Option Nat) : storePlan P t (.bp b o) (sl f r l) k = stS (td P t) b o (sl f r l) k := store_sl P t b o r _ _ k
theorem store_gv {P : Program} (t : TypeId) (b o b' n : Nat) (s : Nat × Nat) (k : Option Nat) : storePlan P t (.bp b o) (.gv b' n s) k = stB (td P t) b o (some [.gv b' n s]) := by
  unfold storePlan stB; cases td P t <;> rfl
attribute [go_sem] store_tsl store_gv Bool.and_false Bool.false_and
end Go.Sx
namespace Go.Sx
open Go.RowKit
end Go.Sx
namespace Go.Sx
open Go.RowKit
end Go.Sx
namespace Go.Sx
open Go.RowKit
section
variable {cx : Cx} {n : Nat} {Q : Ex → St → Prop} {st : St} {G : Gh} {h : Hp} {w : World} {P : Program}
def notTup : C → Bool
  | .tup _ => false
  | _ => true
theorem liveC_setC {cells : List C} (hl : liveC (some cells) = some cells) (k : Nat) {c' : C} (hc : notTup c' = true) : liveC (some (cells.set k c')) = some (cells.set k c') := by
  cases cells with
  | nil => simp [liveC]
  | cons c t =>
    cases k with
    | zero =>
      rw [List.set_cons_zero]
      unfold liveC
      split
      · rename_i h2; cases h2; cases hc
      · rfl
    | succ k =>
      rw [List.set_cons_succ]
      unfold liveC at hl ⊢
      split at hl
      · cases hl
      · rename_i hn
        split
        · rename_i h2; cases h2; exact absurd rfl (hn _ _)
        · rfl
theorem WorldOK.bxc (H : WorldOK G h w) {b k : Nat} {c c' : C} {cells : List C} (hb : h.at b = some cells) (hk : cells[k]? = some c) (hc : CLe c c') (ht : notTup c' = true) : WorldOK G (h.set b (some (cells.set k c'))) w := by
  have hlt := Hp.at_lt hb
  have hlive := liveC_setC (Hp.at_live hb) k ht
  have hkl : k < cells.length := (List.getElem?_eq_some_iff.1 hk).1
  refine ⟨H.known,fun b' c2 x => ?_,fun b' blk x => ?_,fun b1 b2 c1 c2 blk x x' y y' => ?_,H.sep,H.tlt,fun b' c2 off s m2 ys blk v x hc2 hm hv => ?_,H.siz,H.mpoT (fun k l x => (mp_setN hlt (mpL_live hlive) k l x).2) (fun _ _ _ x => x) (.refl G),H.mpiT (fun k l x => (mp_setN hlt (mpL_live hlive) k l x).2) (fun _ _ _ _ x => x)⟩
  · rw [Hp.at_set hlt] at x
    split at x
    · rename_i e; subst e; rw [hlive] at x; cases x
      rcases H.box b' cells hb with ⟨rfl,hE⟩ | ⟨blk,cs,e,q1,q2,q3,q4,q5⟩
      · simp at hkl
      · refine .inr ⟨blk,cs,e,q1,q2,by rw [List.length_set]; exact q3,?_,q5⟩
        rw [List.length_set]
        have hsz : cs.toList.length = cs.size := by simp
        have hlen : (cells.set k c').length = (cs.toList.take cells.length).length := by
          rw [List.length_set,List.length_take]; omega
        refine RepL.of_get hlen fun i y v hy hv => ?_
        rw [List.getElem?_set] at hy
        split at hy
        · rename_i e2; subst e2
          (try rw [if_pos hkl] at hy); cases hy
          obtain ⟨v2,hv2,hr⟩ := q4.get k _ hk
          rw [hv] at hv2; cases hv2
          exact hc.1 _ _ hr
        · obtain ⟨v2,hv2,hr⟩ := q4.get i _ hy
          rw [hv] at hv2; cases hv2; exact hr
    · exact H.box b' c2 x
  · obtain ⟨⟨c0,hc0⟩,hl⟩ := H.dom b' blk x
    refine ⟨?_,hl⟩
    by_cases e : b' = b
    · subst e; exact ⟨_,by rw [List.getElem?_set_self hlt]⟩
    · exact ⟨c0,by rw [List.getElem?_set_ne (fun h => e h.symm)]; exact hc0⟩
  · have key : ∀ b' c2,Hp.at (h.set b (some (cells.set k c'))) b' = some c2 → ∃ c0,h.at b' = some c0 := fun b' c2 x => by
      rw [Hp.at_set hlt] at x
      split at x
      · rename_i e; subst e; exact ⟨cells,hb⟩
      · exact ⟨c2,x⟩
    obtain ⟨d1,e1⟩ := key b1 c1 x
    obtain ⟨d2,e2⟩ := key b2 c2 x'
    exact H.inj b1 b2 d1 d2 blk e1 e2 y y'
  · rw [Hp.at_set hlt] at x
    split at x
    · rename_i e; subst e; rw [hlive] at x; cases x
      rw [List.getElem?_set] at hc2
      split at hc2
      · rename_i e2; subst e2
        (try rw [if_pos hkl] at hc2); cases hc2
        rcases hc.2 s m2 ys rfl with rfl | hfull
        · exact H.own b' cells k s m2 ys blk v hb hk hm hv
        · rcases H.box b' cells hb with ⟨rfl,hE⟩ | ⟨blk2,cs,e,q1,q2,q3,q4,q5⟩
          · simp at hkl
          · obtain ⟨v2,hv2,hr⟩ := q4.get k _ hk
            rw [q1] at hm; cases hm
            obtain ⟨fr,q6,q7⟩ := q2
            rw [List.getElem?_take_of_lt hkl] at hv2
            rw [cell_of q6 _ _ hv2] at hv
            cases hv
            obtain ⟨a,rfl⟩ := hfull _ _ hr
            exact .inl ⟨a,rfl⟩
      · exact H.own b' cells off s m2 ys blk v hb hc2 hm hv
    · exact H.own b' c2 off s m2 ys blk v x hc2 hm hv
theorem Tr.bxc {c : Code} {e : List (Nat × C)} {h : Hp} (b k : Nat) {x : C} (x' : C) (cells : List C) (hb : h.at b = some cells) (hk : cells[k]? = some x) (hc : CLe x x') (ht : notTup x' = true) (H : Tr cx n c ⟨A e,h.set b (some (cells.set k x'))⟩ Q) : Tr cx n c ⟨A e,h⟩ Q := fun r hr G w a S R hR =>
  H r hr G w a ⟨S.defers,S.size,S.pre.ok.bxc hb hk hc ht,S.pre.env,S.pre.glob⟩ R hR
theorem eq_sn {t e : TypeId} {s y : Nat} {z : List Value} (op : BinOp) {x : C} (hx : x.nilS? = some false) (hv : ∀ v,x ≠ .val v) (h : td P t = some ⟨.slice e,s,y,z⟩) (hg : P.eqGuardType P.depth t = false) : binPlan P op t x (.val (.slice none 0 0)) = eqR op false := by
  have he : eqC P 9 t x (.val (.slice none 0 0)) = some false := by
    unfold eqC; rw [h]; simp only [hx]; rfl
  have h1 : binPlan P op t x (.val (.slice none 0 0)) = eqPlan P op t x (.val (.slice none 0 0)) := by
    cases x with
    | val v => exact absurd rfl (hv v)
    | _ => rfl
  rw [h1]
  unfold eqPlan
  rw [if_pos ⟨.inr (.inl ⟨by rw [hx]; rfl,rfl⟩),hg⟩]
  unfold eqR
  cases op <;> simp [he,vp,Plan.pure]
end
end Go.Sx
namespace Go.Sx
open Go.RowKit Go.ChangeShapes Go.WideShapes
abbrev RelF (α : Type) := α → (H : Type) → List (DataW H) → Prop
structure RdF (P : Program) (fs : List Field) (off z : Nat) {α : Type} (f : α → List C) (R : RelF α) : Prop where
  rd : ∀ {H : Type} {enc : TypeId × Value → H} {W : World} {base : Nat} {sp : Nat → Bool} {held : Bool} {n : Nat} {cs : List Value} {xs : List (DataW H × List MemPlace)},xs.length = fs.length → cs.length = off + z →
    (∀ (i : Nat) (fd : Field),fs[i]? = some fd → DataW.trod enc P W base sp held n fd.type ((cs.drop fd.offset).take (P.cellsOf fd.type)) = xs[i]?) → ∃ a,R a H (xs.map (·.1)) ∧ RepL (GW W) (f a) (cs.drop off) ∧ ∀ u ∈ cs.drop off,u.oneCell' = true
end Go.Sx
namespace Go.Sx
open Go.RowKit
section
variable {cx : Cx} {n : Nat} {Q : Ex → St → Prop} {e : List (Nat × C)} {h : Hp} {b : Code} {id : Nat} {l : List Oper} {s : St}
theorem Tr.w (hcx : CxOK cx) (apps : List Nat) (dsts : List (Option Nat)) (z : Hp) (h1 : l.filterMap appOf = apps) (h2 : l.map (·.dst) = dsts) (h3 : nones l = z) (H : Tr cx n b s Q) (E : ∀ K : St → Prop,K s → run cx apps dsts l h.length e (h ++ z) [] (fun _ s => K s)) : Tr cx n (.seq (.region id l.toArray false) b) ⟨A e,h⟩ Q :=
  Tr.seqK fun K hK => Tr.rg hcx apps dsts z h1 h2 h3 (E K (hK s H))
theorem Tr.v (hcx : CxOK cx) (apps : List Nat) (dsts : List (Option Nat)) (z : Hp) (h1 : l.filterMap appOf = apps) (h2 : l.map (·.dst) = dsts) (h3 : nones l = z) (H : Q .normal s) (E : ∀ K : St → Prop,K s → run cx apps dsts l h.length e (h ++ z) [] (fun _ s => K s)) : Tr cx n (.region id l.toArray false) ⟨A e,h⟩ Q :=
  Tr.rg hcx apps dsts z h1 h2 h3 (E (Q .normal) H)
theorem Tr.wD (hcx : CxOK cx) (hm : cx.P.follows .mixedOrders = true) (apps : List Nat) (dsts : List (Option Nat)) (z : Hp) (h1 : l.filterMap appOf = apps) (h2 : l.map (·.dst) = dsts) (h3 : nones l = z) (hs : regStatic l.toArray = true) (H : Tr cx n b s Q) (E : ∀ K : St → Prop,K s → run cx apps dsts l h.length e (h ++ z) [] (fun fs s => confsOK l.toArray fs.reverse = true ∧ K s)) : Tr cx n (.seq (.region id l.toArray true) b) ⟨A e,h⟩ Q :=
  Tr.seqK fun K hK => Tr.rgD hcx hm apps dsts z h1 h2 h3 hs (E K (hK s H))
theorem Tr.vD (hcx : CxOK cx) (hm : cx.P.follows .mixedOrders = true) (apps : List Nat) (dsts : List (Option Nat)) (z : Hp) (h1 : l.filterMap appOf = apps) (h2 : l.map (·.dst) = dsts) (h3 : nones l = z) (hs : regStatic l.toArray = true) (H : Q .normal s) (E : ∀ K : St → Prop,K s → run cx apps dsts l h.length e (h ++ z) [] (fun fs s => confsOK l.toArray fs.reverse = true ∧ K s)) : Tr cx n (.region id l.toArray true) ⟨A e,h⟩ Q :=
  Tr.rgD hcx hm apps dsts z h1 h2 h3 hs (E (Q .normal) H)
theorem Tr.wG (hcx : CxOK cx) (gs : List Nat) (apps : List Nat) (dsts : List (Option Nat)) (z : Hp) (h1 : l.filterMap appOf = apps) (h2 : l.map (·.dst) = dsts) (h3 : nones l = z) (H : Tr cx n b s Q) (E : ∀ K : St → Prop,K s → run (cx.grow gs) apps dsts l h.length e (h ++ z) [] (fun _ s => K s)) : Tr cx n (.seq (.region id l.toArray false) b) ⟨A e,h⟩ Q :=
  Tr.seqK fun K hK => Tr.rgG hcx gs apps dsts z h1 h2 h3 (E K (hK s H))
theorem Tr.vG (hcx : CxOK cx) (gs : List Nat) (apps : List Nat) (dsts : List (Option Nat)) (z : Hp) (h1 : l.filterMap appOf = apps) (h2 : l.map (·.dst) = dsts) (h3 : nones l = z) (H : Q .normal s) (E : ∀ K : St → Prop,K s → run (cx.grow gs) apps dsts l h.length e (h ++ z) [] (fun _ s => K s)) : Tr cx n (.region id l.toArray false) ⟨A e,h⟩ Q :=
  Tr.rgG hcx gs apps dsts z h1 h2 h3 (E (Q .normal) H)
theorem Tr.wDG (hcx : CxOK cx) (hm : cx.P.follows .mixedOrders = true) (gs : List Nat) (apps : List Nat) (dsts : List (Option Nat)) (z : Hp) (h1 : l.filterMap appOf = apps) (h2 : l.map (·.dst) = dsts) (h3 : nones l = z) (hs : regStatic l.toArray = true) (H : Tr cx n b s Q) (E : ∀ K : St → Prop,K s → run (cx.grow gs) apps dsts l h.length e (h ++ z) [] (fun fs s => confsOK l.toArray fs.reverse = true ∧ K s)) : Tr cx n (.seq (.region id l.toArray true) b) ⟨A e,h⟩ Q :=
  Tr.seqK fun K hK => Tr.rgDG hcx hm gs apps dsts z h1 h2 h3 hs (E K (hK s H))
theorem Tr.vDG (hcx : CxOK cx) (hm : cx.P.follows .mixedOrders = true) (gs : List Nat) (apps : List Nat) (dsts : List (Option Nat)) (z : Hp) (h1 : l.filterMap appOf = apps) (h2 : l.map (·.dst) = dsts) (h3 : nones l = z) (hs : regStatic l.toArray = true) (H : Q .normal s) (E : ∀ K : St → Prop,K s → run (cx.grow gs) apps dsts l h.length e (h ++ z) [] (fun fs s => confsOK l.toArray fs.reverse = true ∧ K s)) : Tr cx n (.region id l.toArray true) ⟨A e,h⟩ Q :=
  Tr.rgDG hcx hm gs apps dsts z h1 h2 h3 hs (E (Q .normal) H)
theorem Tr.k (ks : List Nat) {c : Code} {e' : List (Nat × C)} (H : Tr cx n c ⟨A e',h⟩ Q) (E : ∀ R : List (Nat × C) → Prop,R e' → R (pk e ks) := by intro RZ hZ; simp only [pk_cons,pk_nil,↓A_cons,↓reduceIte,Nat.reduceEqDiff,reduceCtorEq]; exact hZ) : Tr cx n c ⟨A e,h⟩ Q :=
  Tr.kp ks (E (fun x => Tr cx n c ⟨A x,h⟩ Q) H)
end
theorem LT {p : Prop} (h : p := by (simp only [Le_nil,Le_cons,↓A_cons,↓reduceIte,Nat.reduceEqDiff,CLe_refl,CLe_top,CLe_full,CLe_nil,CLe_own,and_true,true_and]; all_goals (repeat' first | exact CLe.refl _ | exact True.intro | (refine CLe_sln ?_; first | rfl | (simp only [List.take_zero]; done)) | exact CLe_nI (by omega) | exact CLe_int (by omega) | exact CLe_inI (by omega) | exact CLe_nIi (by omega) | with_reducible apply And.intro))) : p := h
theorem O1 {p : Prop} (h : p := by first | omega | (simp only []; omega)) : p := h
theorem tI : True := True.intro
end Go.Sx
namespace Go.Sx
open Go.RowKit
section
variable (a1 b1 : Nat) (z1 : List Value)
theorem ldK_map (k e : TypeId) (xs : List C) : ldK (some ⟨.map k e,a1,b1,z1⟩) xs = (rdc xs 0).map vp := rfl
end
section
variable (cx : Cx) (apps : List Nat) (dsts : List (Option Nat)) (l : List Oper) (id id' : Nat) (d : Option Nat) (e : List (Nat × C)) (h : Hp) (fs : List FP) (K : List FP → St → Prop) (ty : TypeId) (pos : String) (aft : Array Edge)
theorem run_mkm (t : TypeId) : run cx apps dsts (⟨d,.makeMap t none,ty,pos,aft,none⟩ :: l) id e h fs K = AN (dOK cx.N d) (stV cx apps dsts l id id d e h fs K (mnewPlan cx.P t)) :=
  run_gen cx apps dsts l id id d e h fs K ty pos aft (.makeMap t none) (mnewPlan cx.P t) (by first | rfl | (cases d <;> rfl)) rfl
theorem run_look (t : TypeId) (x y : Operand) (ok : Bool) : run cx apps dsts (⟨d,.lookup t x y ok,ty,pos,aft,none⟩ :: l) id e h fs K = AN (dOK cx.N d) (stV cx apps dsts l id id d e h fs K (mlookPlan cx t (on cx e x) (on cx e y) ok)) :=
  run_gen cx apps dsts l id id d e h fs K ty pos aft (.lookup t x y ok) (mlookPlan cx t (on cx e x) (on cx e y) ok) (by first | rfl | (cases d <;> rfl)) rfl
theorem run_mput (t : TypeId) (m k x : Operand) : run cx apps dsts (⟨d,.mapUpdate t m k x,ty,pos,aft,none⟩ :: l) id e h fs K = AN (dOK cx.N d) (stV cx apps dsts l id id d e h fs K (mputPlan cx t (on cx e m) (on cx e k) (on cx e x))) :=
  run_gen cx apps dsts l id id d e h fs K ty pos aft (.mapUpdate t m k x) (mputPlan cx t (on cx e m) (on cx e k) (on cx e x)) (by first | rfl | (cases d <;> rfl)) rfl
theorem run_mdel (t t2 : TypeId) (m k : Operand) : run cx apps dsts (⟨d,.call ⟨.builtin .delete,#[m,k],#[t,t2]⟩,ty,pos,aft,none⟩ :: l) id e h fs K = AN (dOK cx.N d) (stV cx apps dsts l id id d e h fs K (mdelPlan cx t (on cx e m) (on cx e k))) :=
  run_gen cx apps dsts l id id d e h fs K ty pos aft (.call ⟨.builtin .delete,#[m,k],#[t,t2]⟩) (mdelPlan cx t (on cx e m) (on cx e k)) (by first | rfl | (cases d <;> rfl)) rfl
theorem stV_mo (f : Hp → Option (C × Hp)) : stV cx apps dsts l id id' d e h fs K (some (.mo f)) = stC cx apps dsts l id' d e fs K (f h) := by
  unfold stV stC act1D
  simp only [actH]
  cases f h with
  | none => rfl
  | some c => simp only [Option.map_some,killS_none,A_mkE]; rfl
theorem stC_mnew : stC cx apps dsts l id' d e fs K (mnewF h) = run cx apps dsts l id' (mkE d (.mp h.length) e) (h ++ [some (mapC [])]) ((4,0) :: fs) K := rfl
end
theorem mnew_eq {P : Program} {t kt et : TypeId} (hk : mapKT P t = some (kt,et)) : mnewPlan P t = some (.mo mnewF) := by unfold mnewPlan; rw [hk]; rfl
theorem mlook_eq (cx : Cx) (t : TypeId) (b : Nat) (k : C) (u : Value) (ok : Bool) (hq : valQ k = some u) : mlookPlan cx t (.mp b) k ok = some (.mo (mlookF cx t b u ok)) := by unfold mlookPlan; rw [hq]
theorem mput_eq (cx : Cx) (t : TypeId) (b : Nat) (k x : C) (u : Value) (hq : valQ k = some u) : mputPlan cx t (.mp b) k x = some (.mo (mputF cx t b u x)) := by unfold mputPlan; rw [hq]
theorem mdel_eq (cx : Cx) (t : TypeId) (b : Nat) (k : C) (u : Value) (hq : valQ k = some u) : mdelPlan cx t (.mp b) k = some (.mo (mdelF cx t b u)) := by unfold mdelPlan; rw [hq]
theorem mp_cons0 (o : Option (List C)) (h : Hp) : Hp.mp (o :: h) 0 = mpL o := rfl
theorem mp_consS (o : Option (List C)) (h : Hp) (n : Nat) : Hp.mp (o :: h) (n + 1) = Hp.mp h n := rfl
attribute [go_sem] ldK_map run_mkm run_look run_mput run_mdel stV_mo stC_mnew mp_cons0 mp_consS
end Go.Sx
namespace Go.Sx
open Go.RowKit
def callG (cx : Cx) (g : Nat) (az : List C) : Bool → Option Plan
  | true => some (.rd 0 (rdE cx g az 0))
  | false => some (.call g az)
theorem callR_G (cx : Cx) (l : List Nat) (g : Nat) (az : List C) (o : Option (C × Hp)) : callR (cx.grow l) g az none o = callG (cx.grow l) g az (isA l (some (1000000 + g))) := by
  have e : ∀ cy : Cx,callR cy g az none o = callG cy g az (cy.gr (1000000 + g)) := fun cy => by
    unfold callR callG
    cases cy.gr (1000000 + g) <;> rfl
  exact e (cx.grow l)
theorem callG_T (cx : Cx) (g : Nat) (az : List C) : callG cx g az true = some (.rd 0 (rdE cx g az 0)) := rfl
attribute [go_sem] callR_G callG_T
end Go.Sx
namespace Go.Sx
open Go.RowKit
def mvBt (t n : Nat) : Option Nat → C
  | some j => .bt j t n
  | none => .top
theorem mvC_bt (ρ : List Nat) (b t n : Nat) : mvC ρ (.bt b t n) = mvBt t n (loc ρ 0 b) := by simp only [mvC]; cases loc ρ 0 b <;> rfl
theorem mvBt_some (t n j : Nat) : mvBt t n (some j) = .bt j t n := rfl
theorem mvBt_none (t n : Nat) : mvBt t n none = .top := rfl
def mvMp : Option Nat → C
  | some j => .mp j
  | none => .top
theorem mvC_mp (ρ : List Nat) (b : Nat) : mvC ρ (.mp b) = mvMp (loc ρ 0 b) := by simp only [mvC]; cases loc ρ 0 b <;> rfl
theorem mvMp_some (j : Nat) : mvMp (some j) = .mp j := rfl
theorem mvMp_none : mvMp none = .top := rfl
section
variable (cx : Cx) (apps : List Nat) (dsts : List (Option Nat)) (l : List Oper) (id' : Nat) (d : Option Nat) (e : List (Nat × C)) (h : Hp) (fs : List FP) (K : List FP → St → Prop)
def stXo (b off : Nat) (cells : List C) (o : Option C) : Prop := match o with
  | none => False
  | some x => run cx apps dsts l id' (mkE d x e) (h.set b (some (cells.set off x.noR))) ((3,b) :: fs) K
theorem stX_cells (b off : Nat) (cells : List C) : stX cx apps dsts l id' d e h fs K b off (some cells) = stXo cx apps dsts l id' d e h fs K b off cells (cells[off]?) := rfl
theorem stXo_some (b off : Nat) (cells : List C) (x : C) : stXo cx apps dsts l id' d e h fs K b off cells (some x) = run cx apps dsts l id' (mkE d x e) (h.set b (some (cells.set off x.noR))) ((3,b) :: fs) K := rfl
end
@[congr] theorem stXo_congr {cx : Cx} {apps : List Nat} {dsts : List (Option Nat)} {l : List Oper} {id' : Nat} {d : Option Nat} {e : List (Nat × C)} {h : Hp} {fs : List FP} {K : List FP → St → Prop} {b off : Nat} {cells : List C} {p p' : Option C} (hp : p = p') :
    stXo cx apps dsts l id' d e h fs K b off cells p = stXo cx apps dsts l id' d e h fs K b off cells p' := by rw [hp]
attribute [go_sem] stX_cells stXo_some
theorem live_mp (b : Nat) (r : List C) : liveC (some (.mp b :: r)) = some (.mp b :: r) := rfl
theorem noR_mp (b : Nat) : (C.mp b).noR = .mp b := rfl
attribute [go_sem] noR_mp
attribute [go_sem] live_mp
end Go.Sx
namespace Go.Sx
open Go.RowKit
mutual
def bkC (r : Nat → Nat) : C → C
  | .sv b o n => .sv (r b) o n
  | .gv b n s => .gv (r b) n s
  | .bp b o => .bp (r b) o
  | .mp b => .mp (r b)
  | .bt b t n => .bt (r b) t n
  | .sl q n xs => .sl q n (bkCs r xs)
  | .kp xs => .kp (bkCs r xs)
  | .agg xs => .agg (bkCs r xs)
  | .tup xs => .tup (bkCs r xs)
  | .fn f xs => .fn f (bkCs r xs)
  | .top => .top
  | .val v => .val v
def bkCs (r : Nat → Nat) : List C → List C
  | [] => []
  | x :: xs => bkC r x :: bkCs r xs
end
theorem bkCs_map (r : Nat → Nat) : ∀ xs : List C,bkCs r xs = xs.map (bkC r)
  | [] => rfl
  | x :: xs => by simp [bkCs,bkCs_map r xs]
structure BkG (r : Nat → Nat) (A B : Gh) : Prop where
  K : ∀ b o u,A.K b o = some u → B.K b o = some u
  μ : ∀ i k,A.μ i = some k → B.μ (r i) = some k
  σ : ∀ i z,A.σ i = some z → B.σ (r i) = some z
mutual
theorem bkC_rep {r : Nat → Nat} {A B : Gh} (h : BkG r A B) : ∀ (c : C) (v : Value),Rep A c v → Rep B (bkC r c) v
  | .top,_,_ => by simp [bkC,Rep]
  | .val u,v,q => by simpa [bkC,Rep] using q
  | .sl q n xs,v,x => by
    simp only [bkC,Rep] at x ⊢
    obtain ⟨a,cap,h1,h2,h3,h4,h5⟩ := x
    refine ⟨a,cap,h1,h2,h3,h4,?_⟩
    rcases h5 with h5 | ⟨blk,off,ha,hk⟩
    · left; rw [h5]; rfl
    · exact .inr ⟨blk,off,ha,bkC_repK h xs blk off hk⟩
  | .sv b off n,v,x => by
    simp only [bkC,Rep] at x ⊢
    obtain ⟨a,cap,h1,h2,h3,h4⟩ := x
    exact ⟨a,cap,h1,h2,h3,fun hz => by obtain ⟨blk,q1,q2⟩ := h4 hz; exact ⟨blk,h.μ _ _ q1,q2⟩⟩
  | .gv b m s,v,x => by
    simp only [bkC,Rep] at x ⊢
    obtain ⟨a,cap,h1,h2,h3,h4⟩ := x
    refine ⟨a,cap,h1,h2,h3,?_⟩
    rcases h4 with h4 | ⟨blk,q1,q2,q3⟩
    · exact .inl h4
    · exact .inr ⟨blk,h.μ _ _ q1,q2,h.σ _ _ q3⟩
  | .bp b off,v,x => by
    simp only [bkC,Rep] at x ⊢
    obtain ⟨blk,h1,h2⟩ := x
    exact ⟨blk,h.μ _ _ h1,h2⟩
  | .mp b,v,x => by
    simp only [bkC,Rep] at x ⊢
    obtain ⟨blk,h1,h2⟩ := x
    exact ⟨blk,h.μ _ _ h1,h2⟩
  | .bt b t n,v,x => by
    simp only [bkC,Rep] at x ⊢
    obtain ⟨blk,h1,h2,h3⟩ := x
    exact ⟨blk,h.μ _ _ h1,h2,h.σ _ _ h3⟩
  | .kp xs,v,x => by
    simp only [bkC,Rep] at x ⊢
    obtain ⟨blk,off,h1,h2⟩ := x
    exact ⟨blk,off,h1,bkC_repK h xs blk off h2⟩
  | .agg xs,v,x => by
    simp only [bkC,Rep] at x ⊢
    obtain ⟨vs,h1,h2,h3⟩ := x
    exact ⟨vs,h1,bkC_repL h xs _ h2,h3⟩
  | .tup xs,v,x => by
    simp only [bkC,Rep] at x ⊢
    obtain ⟨vs,h1,h2⟩ := x
    exact ⟨vs,h1,bkC_repL h xs _ h2⟩
  | .fn f xs,v,x => by
    simp only [bkC,Rep] at x ⊢
    obtain ⟨vs,h1,h2⟩ := x
    exact ⟨vs,h1,bkC_repL h xs _ h2⟩
theorem bkC_repL {r : Nat → Nat} {A B : Gh} (h : BkG r A B) : ∀ (xs : List C) (vs : List Value),RepL A xs vs → RepL B (bkCs r xs) vs
  | [],vs,q => by simpa [bkCs,RepL] using q
  | x :: xs,vs,q => by
    simp only [bkCs,RepL] at q ⊢
    obtain ⟨v,vs',h1,h2,h3⟩ := q
    exact ⟨v,vs',h1,bkC_rep h x v h2,bkC_repL h xs vs' h3⟩
theorem bkC_repK {r : Nat → Nat} {A B : Gh} (h : BkG r A B) : ∀ (xs : List C) (blk off : Nat),RepK A blk off xs → RepK B blk off (bkCs r xs)
  | [],_,_,_ => by simp [bkCs,RepK]
  | x :: xs,blk,off,q => by
    simp only [bkCs,RepK] at q ⊢
    obtain ⟨⟨u,h1,h2,h3⟩,h4⟩ := q
    exact ⟨⟨u,h.K _ _ _ h1,h2,bkC_rep h x u h3⟩,bkC_repK h xs blk (off + 1) h4⟩
end
theorem bkC_mrep {r : Nat → Nat} {A B : Gh} (h : BkG r A B) : ∀ (l : List C) (es : List MapEntry),MRep A l es → MRep B (bkCs r l) es
  | [],_,q => by simpa [MRep,bkCs] using q
  | [_],_,q => by simp [MRep] at q
  | k :: v :: l,es,q => by
    simp only [MRep,bkCs] at q ⊢
    obtain ⟨e,es',h1,h2,h3,h4⟩ := q
    exact ⟨e,es',h1,bkC_rep h k _ h2,bkC_rep h v _ h3,bkC_mrep h l es' h4⟩
theorem bkC_own {r : Nat → Nat} {c : C} {s m : Nat} {xs : List C} (h : bkC r c = .sl (.own s) m xs) : ∃ ys,c = .sl (.own s) m ys := by
  cases c <;> simp only [bkC] at h <;> cases h
  exact ⟨_,rfl⟩
theorem bkC_isVal {r : Nat → Nat} {c : C} {u : Value} (h : bkC r c = .val u) : c = .val u := by
  cases c <;> simp only [bkC] at h <;> cases h
  rfl
theorem bkC_isTup {r : Nat → Nat} {c : C} {xs : List C} (h : bkC r c = .tup xs) : ∃ ys,c = .tup ys ∧ xs = bkCs r ys := by
  cases c <;> simp only [bkC] at h <;> cases h
  exact ⟨_,rfl,rfl⟩
theorem bk_live {r : Nat → Nat} {o : Option (List C)} {cells : List C} (h : liveC (o.map (bkCs r)) = some cells) : ∃ c0,liveC o = some c0 ∧ cells = bkCs r c0 := by
  have h1 := liveC_some h
  cases o with
  | none => cases h1
  | some c0 =>
    simp only [Option.map_some,Option.some.injEq] at h1
    refine ⟨c0,?_,h1.symm⟩
    subst h1
    cases c0 with
    | nil => rfl
    | cons x l =>
      cases x with
      | tup xs => simp only [Option.map_some,bkCs,bkC] at h; cases h
      | _ => rfl
theorem bk_mpL {r : Nat → Nat} {o : Option (List C)} {l : List C} (h : mpL (o.map (bkCs r)) = some l) : ∃ l0,mpL o = some l0 ∧ l = bkCs r l0 := by
  cases o with
  | none => cases h
  | some c0 => exact mpL_map (Fs := bkCs r) (bkCs_map r) (fun _ _ => bkC_isVal) (fun _ _ => bkC_isTup) h
def bkR (ρ : List Nat) (L : Nat) (i : Nat) : Nat := match ρ[i]? with
  | some b => b
  | none => L + (i - ρ.length)
def bkS (ρ : List Nat) (L : Nat) (b : Nat) : Option Nat := if b < L then loc ρ 0 b else some (ρ.length + (b - L))
def bkH (ρ : List Nat) (H h' : Hp) : Hp :=
  ((List.range H.length).map fun b => match loc ρ 0 b with
    | some i => ((h'[i]?).getD none).map (bkCs (bkR ρ H.length))
    | none => (H[b]?).getD none) ++ (h'.drop ρ.length).map (Option.map (bkCs (bkR ρ H.length)))
section
variable {ρ : List Nat} {H h' : Hp}
theorem bkS_R (hn : ρ.Nodup) (hl : ∀ b ∈ ρ,b < H.length) (i : Nat) : bkS ρ H.length (bkR ρ H.length i) = some i := by
  unfold bkS bkR
  cases hi : ρ[i]? with
  | some b =>
    simp only []
    rw [if_pos (hl b (List.mem_of_getElem? hi)),loc_of hn hi,Nat.zero_add]
  | none =>
    simp only []
    have : ρ.length ≤ i := List.getElem?_eq_none_iff.1 hi
    rw [if_neg (by omega)]
    congr 1; omega
theorem bkR_S {b i : Nat} (h : bkS ρ H.length b = some i) : bkR ρ H.length i = b := by
  unfold bkS at h
  unfold bkR
  split at h
  · have := (loc_some h).2
    rw [Nat.sub_zero] at this
    rw [this]
  · cases h
    rw [List.getElem?_eq_none (by omega)]
    simp only []
    omega
theorem bkH_get (b : Nat) : (bkH ρ H h')[b]? = match bkS ρ H.length b with
    | some i => if b < H.length then some (((h'[i]?).getD none).map (bkCs (bkR ρ H.length))) else (h'[i]?).map (Option.map (bkCs (bkR ρ H.length)))
    | none => H[b]? := by
  unfold bkH bkS
  by_cases hb : b < H.length
  · rw [List.getElem?_append_left (by simpa using hb),List.getElem?_map,List.getElem?_range hb,if_pos hb]
    simp only [Option.map_some]
    cases hl : loc ρ 0 b with
    | some i => simp only [hb,if_true]
    | none => simp only []; rw [List.getElem?_eq_getElem hb]; rfl
  · rw [List.getElem?_append_right (by simp; omega),if_neg hb]
    simp only [List.length_map,List.length_range,List.getElem?_map,List.getElem?_drop,hb,if_false]
theorem bkH_at {b : Nat} {cells : List C} (h : (bkH ρ H h').at b = some cells) : (∃ i c0,bkS ρ H.length b = some i ∧ h'.at i = some c0 ∧ cells = bkCs (bkR ρ H.length) c0) ∨ (bkS ρ H.length b = none ∧ H.at b = some cells) := by
  unfold Hp.at at h
  rw [bkH_get] at h
  cases hs : bkS ρ H.length b with
  | none => rw [hs] at h; exact .inr ⟨rfl,h⟩
  | some i =>
    rw [hs] at h
    left
    have : ∃ o,h'[i]? = some o ∧ liveC (o.map (bkCs (bkR ρ H.length))) = some cells := by
      simp only [] at h
      split at h
      · cases hq : h'[i]? with
        | none => rw [hq] at h; cases h
        | some o => rw [hq] at h; exact ⟨o,rfl,h⟩
      · cases hq : h'[i]? with
        | none => rw [hq] at h; cases h
        | some o => rw [hq] at h; exact ⟨o,rfl,h⟩
    obtain ⟨o,h1,h2⟩ := this
    obtain ⟨c0,h3,h4⟩ := bk_live h2
    exact ⟨i,c0,rfl,by unfold Hp.at; rw [h1]; exact h3,h4⟩
theorem bkH_mp {b : Nat} {l : List C} (h : (bkH ρ H h').mp b = some l) : (∃ i l0,bkS ρ H.length b = some i ∧ h'.mp i = some l0 ∧ l = bkCs (bkR ρ H.length) l0) ∨ (bkS ρ H.length b = none ∧ H.mp b = some l) := by
  unfold Hp.mp at h
  rw [bkH_get] at h
  cases hs : bkS ρ H.length b with
  | none => rw [hs] at h; exact .inr ⟨rfl,h⟩
  | some i =>
    rw [hs] at h
    left
    have : ∃ o,h'[i]? = some o ∧ mpL (o.map (bkCs (bkR ρ H.length))) = some l := by
      simp only [] at h
      split at h
      · cases hq : h'[i]? with
        | none => rw [hq] at h; cases h
        | some o => rw [hq] at h; exact ⟨o,rfl,h⟩
      · cases hq : h'[i]? with
        | none => rw [hq] at h; cases h
        | some o => rw [hq] at h; exact ⟨o,rfl,h⟩
    obtain ⟨o,h1,h2⟩ := this
    obtain ⟨c0,h3,h4⟩ := bk_mpL h2
    exact ⟨i,c0,rfl,by unfold Hp.mp; rw [h1]; exact h3,h4⟩
theorem bkH_some {b i : Nat} {c0 : List C} (hs : bkS ρ H.length b = some i) (h : h'[i]? = some (some c0)) : (bkH ρ H h')[b]? = some (some (bkCs (bkR ρ H.length) c0)) := by
  rw [bkH_get,hs]
  simp only [h]
  split <;> rfl
end
open Classical in
noncomputable def bkG (ρ : List Nat) (L z : Nat) (G G2 : Gh) : Gh where
  K := G2.K
  μ := fun b => match bkS ρ L b with
    | some i => G2.μ i
    | none => G.μ b
  T := fun g => match G2.T g with
    | some p => some (if p.1 = 1 then (1,bkR ρ L p.2.1,p.2.2) else p)
    | none => if g < z ∧ (mvG ρ G).T g = none then G.T g else none
  σ := fun b => match bkS ρ L b with
    | some i => G2.σ i
    | none => G.σ b
theorem FC.frameH {P : Program} {gl : Nat → C} {f : Nat} {args : List C} {c : C} {H h' : Hp} (ρ : List Nat) (hn : ρ.Nodup) (hlive : ∀ b ∈ ρ,(H.at b).isSome = true ∨ (H.mp b).isSome = true)
    (hD : ∀ b,b < H.length → b ∉ ρ → (H.at b).isSome = true ∨ (H.mp b).isSome = true ∨ H[b]? = some none)
    (hf : FC P gl f (mvCs ρ args) (mvH ρ H) c h') (hg : ∀ g,noRef 0 (gl g) = true) :
    FC P gl f args H (bkC (bkR ρ H.length) c) (bkH ρ H h') := by
  obtain ⟨he,hf⟩ := hf
  refine ⟨he,fun G w vs W hTg hgl hr => ?_⟩
  have hl : ∀ b ∈ ρ,b < H.length := fun b hb => by
    rcases hlive b hb with h | h
    · obtain ⟨x,hx⟩ := Option.isSome_iff_exists.1 h; exact Hp.at_lt hx
    · obtain ⟨x,hx⟩ := Option.isSome_iff_exists.1 h; exact Hp.mp_lt hx
  have W1 : WorldOK (mvG ρ G) (mvH ρ H) w := W.mv hn
  have hT1 : ∀ g,G.T g = none → (mvG ρ G).T g = none := fun g h => by simp only [mvG,h]
  have hT1b : ∀ g b o,G.T g = some (1,b,o) → b ∉ ρ → (mvG ρ G).T g = none := fun g b o h hb => by
    simp only [mvG,h,if_true]
    cases hq : loc ρ 0 b with
    | none => rfl
    | some j => have := (loc_some hq).2; exact (hb (List.mem_of_getElem? this)).elim
  refine Calls.mono (hf (mvG ρ G) w vs W1 (fun g p x => by
    simp only [mvG] at x
    cases hq : G.T g with
    | none => rw [hq] at x; cases x
    | some q =>
      rw [hq] at x
      have := hTg g q hq
      simp only [this,if_true] at x
      cases hz : loc ρ 0 q.2.1 with
      | none => rw [hz] at x; cases x
      | some j => rw [hz] at x; cases x; rfl) (fun g => mvC_noRef (hg g) (hgl g)) (mvC_repL _ _ hr)) ?_
  rintro e w' ⟨v,G2,rfl,rv,ro,W2,F⟩
  have hμ1 : ∀ i blk,(mvG ρ G).μ i = some blk → ∃ b,ρ[i]? = some b ∧ G.μ b = some blk := fun i blk x => by
    simp only [mvG] at x
    cases hq : ρ[i]? with
    | none => rw [hq] at x; cases x
    | some q => rw [hq] at x; exact ⟨q,rfl,x⟩
  have hout : ∀ b blk,bkS ρ H.length b = none → G.μ b = some blk → ((H.at b).isSome = true ∨ (H.mp b).isSome = true) ∧ ∀ i,(mvG ρ G).μ i ≠ some blk := fun b blk hs hm => by
    obtain ⟨⟨c1,hc1⟩,_⟩ := W.dom b blk hm
    have hbl := (List.getElem?_eq_some_iff.1 hc1).1
    have hbρ : b ∉ ρ := fun hb => by
      obtain ⟨i,hi⟩ := List.getElem?_of_mem hb
      have := bkS_R (H := H) hn hl i
      unfold bkR at this
      rw [hi] at this
      rw [hs] at this; cases this
    have hlv : (H.at b).isSome = true ∨ (H.mp b).isSome = true := by
      rcases hD b hbl hbρ with h | h | h
      · exact .inl h
      · exact .inr h
      · rw [hc1] at h; cases h
    refine ⟨hlv,fun i hi => ?_⟩
    obtain ⟨q,hq,hqm⟩ := hμ1 i blk hi
    have hqρ := List.mem_of_getElem? hq
    have hne : b ≠ q := fun e => hbρ (e ▸ hqρ)
    rcases hlv with h1 | h1 <;> rcases hlive q hqρ with h2 | h2 <;> obtain ⟨x1,y1⟩ := Option.isSome_iff_exists.1 h1 <;> obtain ⟨x2,y2⟩ := Option.isSome_iff_exists.1 h2
    · exact hne (W.inj b q _ _ blk y1 y2 hm hqm)
    · obtain ⟨k,es,clk,q1,q2,_⟩ := W.mpo q x2 y2
      rw [hqm] at q1; cases q1
      obtain ⟨cs,e,⟨fr,r2,_⟩,_⟩ := W.bx y1 hm
      rw [q2] at r2; cases r2
    · obtain ⟨k,es,clk,q1,q2,_⟩ := W.mpo b x1 y1
      rw [hm] at q1; cases q1
      obtain ⟨cs,e,⟨fr,r2,_⟩,_⟩ := W.bx y2 hqm
      rw [q2] at r2; cases r2
    · exact hne (W.mpi b q _ _ blk y1 y2 hm hqm)
  have hobl : ∀ b blk,bkS ρ H.length b = none → G.μ b = some blk → w'.heap[blk]? = w.heap[blk]? ∧ G2.T blk = none ∧ (∀ i,G2.μ i ≠ some blk) ∧ ∀ o,G2.K blk o = G.K blk o := fun b blk hs hm =>
    F.old blk (W.dom b blk hm).2 (hT1 _ (W.sep b blk hm).2) (hout b blk hs hm).2
  have hμlt : ∀ b blk,G.μ b = some blk → blk < w.heap.size := fun b blk x => (W.dom b blk x).2
  have hrow : ∀ g b o,G.T g = some (1,b,o) → b ∉ ρ → w'.heap[g]? = w.heap[g]? ∧ G2.T g = none ∧ (∀ i,G2.μ i ≠ some g) ∧ ∀ o,G2.K g o = G.K g o := fun g b o hg hb =>
    F.old g (W.tlt g _ hg) (hT1b g b o hg hb) (fun i hi => by
      obtain ⟨q,_,hq⟩ := hμ1 i g hi
      have := (W.sep q g hq).2; rw [hg] at this; cases this)
  have gk : BkG (bkR ρ H.length) G2 (bkG ρ H.length w.heap.size G G2) := ⟨fun _ _ _ x => x,fun i k x => by simp only [bkG,bkS_R hn hl]; exact x,fun i z x => by simp only [bkG,bkS_R hn hl]; exact x⟩
  have le3 : G.Le (bkG ρ H.length w.heap.size G G2) := by
    refine ⟨fun b o u x => F.le.K b o u x,fun b k x => ?_,fun b z x => ?_⟩
    · simp only [bkG]
      cases hs : bkS ρ H.length b with
      | none => exact x
      | some i =>
        simp only []
        have hb := bkR_S hs
        refine F.le.μ i k ?_
        obtain ⟨⟨c1,hc1⟩,_⟩ := W.dom b k x
        have hbl := (List.getElem?_eq_some_iff.1 hc1).1
        simp only [bkS,hbl,if_true] at hs
        have := (loc_some hs).2
        rw [Nat.sub_zero] at this
        simp only [mvG,this]; exact x
    · simp only [bkG]
      cases hs : bkS ρ H.length b with
      | none => exact x
      | some i =>
        simp only []
        refine F.le.σ i z ?_
        obtain ⟨blk,_,_,_,q1,_⟩ := W.siz b z x
        obtain ⟨⟨c1,hc1⟩,_⟩ := W.dom b blk q1
        have hbl := (List.getElem?_eq_some_iff.1 hc1).1
        simp only [bkS,hbl,if_true] at hs
        have := (loc_some hs).2
        rw [Nat.sub_zero] at this
        simp only [mvG,this]; exact x
  have hSρ : ∀ b,bkS ρ H.length b = none → b ∉ ρ := fun b hs hb => by
    obtain ⟨i,hi⟩ := List.getElem?_of_mem hb
    have := bkS_R (H := H) hn hl i
    unfold bkR at this
    rw [hi] at this
    rw [hs] at this; cases this
  have ownI : ∀ (p p' : Place) (u : Value) (s n : Nat),OwnRow G2 w' p u s n → p' = (if p.1 = 1 then (1,bkR ρ H.length p.2.1,p.2.2) else p) → OwnRow (bkG ρ H.length w.heap.size G G2) w' p' u s n := fun p p' u s n O hp => by
    rcases O with O | ⟨g,cap,cur,e,a1,a2,a3,a4,a5,a6⟩
    · exact .inl O
    · refine .inr ⟨g,cap,cur,e,a1,by simp only [bkG,a2]; rw [hp],a3,a4,a5,fun b hb => ?_⟩
      simp only [bkG] at hb
      cases hs : bkS ρ H.length b with
      | some i => rw [hs] at hb; exact a6 i hb
      | none =>
        rw [hs] at hb
        have := (hobl b g hs hb).2.1
        rw [a2] at this; cases this
  refine ⟨v,bkG ρ H.length w.heap.size G G2,rfl,bkC_rep gk c v rv,fun s n xs e => ?_,⟨fun blk off u x => W2.known blk off u x,fun b cells hb => ?_,fun b blk hm => ?_,fun b b' c1 c2 blk hb hb' hm hm' => ?_,fun b blk hm => ?_,fun g p hp => ?_,fun b cells off s n xs blk u hb hc hm hv => ?_,fun b z hz => ?_,fun b l hb => ?_,fun b b' l l' blk hb hb' hm hm' => ?_⟩,F.os,F.tape,F.output,F.size,le3,fun g hg' ht hm => ?_⟩
  · obtain ⟨ys,hy⟩ := bkC_own e
    exact ownI _ _ v s n (ro s n ys hy) rfl
  · rcases bkH_at hb with ⟨i,c0,hs,h1,rfl⟩ | ⟨hs,h1⟩
    · rcases W2.box i c0 h1 with ⟨hE,hE2⟩ | ⟨blk,cs,e,q1,q2,q3,q4,q5⟩
      · exact .inl ⟨by rw [hE]; rfl,by simp only [bkG,hs]; exact hE2⟩
      · have hlen : (bkCs (bkR ρ H.length) c0).length = c0.length := by rw [bkCs_map]; simp
        exact .inr ⟨blk,cs,e,by simp only [bkG,hs]; exact q1,q2,by rw [hlen]; exact q3,by rw [hlen]; exact bkC_repL gk _ _ q4,q5⟩
    · rcases W.box b cells h1 with ⟨hE,hE2⟩ | ⟨blk,cs,e,q1,q2,q3,q4,q5⟩
      · exact .inl ⟨hE,by simp only [bkG,hs]; exact hE2⟩
      · exact .inr ⟨blk,cs,e,by simp only [bkG,hs]; exact q1,by rw [(hobl b blk hs q1).1]; exact q2,q3,q4.mono le3,q5⟩
  · simp only [bkG] at hm
    cases hs : bkS ρ H.length b with
    | some i =>
      rw [hs] at hm
      obtain ⟨⟨c1,hc1⟩,hlt⟩ := W2.dom i blk hm
      exact ⟨⟨_,bkH_some hs hc1⟩,hlt⟩
    | none =>
      rw [hs] at hm
      obtain ⟨⟨c1,hc1⟩,hlt⟩ := W.dom b blk hm
      exact ⟨⟨c1,by rw [bkH_get,hs]; exact hc1⟩,Nat.lt_of_lt_of_le hlt F.size⟩
  · simp only [bkG] at hm hm'
    rcases bkH_at hb with ⟨i,c0,hs,h1,_⟩ | ⟨hs,h1⟩ <;> rcases bkH_at hb' with ⟨i',c0',hs',h1',_⟩ | ⟨hs',h1'⟩
    · rw [hs] at hm
      rw [hs'] at hm'
      have := W2.inj i i' _ _ blk h1 h1' hm hm'
      subst this
      rw [← bkR_S hs,← bkR_S hs']
    · rw [hs] at hm
      rw [hs'] at hm'
      exact ((hobl b' blk hs' hm').2.2.1 i hm).elim
    · rw [hs] at hm
      rw [hs'] at hm'
      exact ((hobl b blk hs hm).2.2.1 i' hm').elim
    · rw [hs] at hm
      rw [hs'] at hm'
      exact W.inj b b' _ _ blk h1 h1' hm hm'
  · simp only [bkG] at hm
    cases hs : bkS ρ H.length b with
    | some i =>
      rw [hs] at hm
      obtain ⟨s1,s2⟩ := W2.sep i blk hm
      refine ⟨s1,?_⟩
      simp only [bkG,s2]
      split
      · rename_i hc
        cases hq : G.T blk with
        | none => rfl
        | some p =>
          have hp1 := hTg blk p hq
          obtain ⟨p1,pb,po⟩ := p
          simp only at hp1
          subst hp1
          have hpb : pb ∉ ρ := fun hb => by
            obtain ⟨j,hj⟩ := List.getElem?_of_mem hb
            have h1 := hc.2
            simp only [mvG,hq,if_true,loc_of (k := 0) hn hj] at h1
            cases h1
          exact ((hrow blk pb po hq hpb).2.2.1 i hm).elim
      · rfl
    | none =>
      rw [hs] at hm
      obtain ⟨s1,s2⟩ := W.sep b blk hm
      obtain ⟨o1,o2,o3,o4⟩ := hobl b blk hs hm
      refine ⟨fun o => (o4 o).trans (s1 o),?_⟩
      simp only [bkG,o2,s2]
      split <;> rfl
  · simp only [bkG] at hp
    cases hq : G2.T g with
    | some p2 => exact W2.tlt g p2 hq
    | none =>
      rw [hq] at hp
      simp only [] at hp
      split at hp
      · exact Nat.lt_of_lt_of_le (W.tlt g p hp) F.size
      · cases hp
  · simp only [bkG] at hm
    rcases bkH_at hb with ⟨i,c0,hs,h1,rfl⟩ | ⟨hs,h1⟩
    · rw [hs] at hm
      rw [bkCs_map,List.getElem?_map] at hc
      cases hq : c0[off]? with
      | none => rw [hq] at hc; cases hc
      | some y =>
        rw [hq] at hc
        simp only [Option.map_some,Option.some.injEq] at hc
        obtain ⟨ys,rfl⟩ := bkC_own hc
        refine ownI _ _ u s n (W2.own i c0 off s n ys blk u h1 hq hm hv) ?_
        rw [if_pos rfl,bkR_S hs]
    · rw [hs] at hm
      have hcell : w'.cell? ⟨blk,off,none⟩ = w.cell? ⟨blk,off,none⟩ := by
        unfold World.cell?; rw [(hobl b blk hs hm).1]
      rcases W.own b cells off s n xs blk u h1 hc hm (by rw [← hcell]; exact hv) with O | ⟨g,cap,cur,e,a1,a2,a3,a4,a5,a6⟩
      · exact .inl O
      · have hbρ := hSρ b hs
        obtain ⟨o1,o2,o3,o4⟩ := hrow g b off a2 hbρ
        refine .inr ⟨g,cap,cur,e,a1,?_,o1.trans a3,a4,fun o ho => (o4 o).trans (a5 o ho),fun b' hb' => ?_⟩
        · simp only [bkG,o2]
          rw [if_pos ⟨W.tlt g _ a2,hT1b g b off a2 hbρ⟩]; exact a2
        · simp only [bkG] at hb'
          cases hs' : bkS ρ H.length b' with
          | some i => rw [hs'] at hb'; exact o3 i hb'
          | none => rw [hs'] at hb'; exact a6 b' hb'
  · simp only [bkG] at hz ⊢
    cases hs : bkS ρ H.length b with
    | some i =>
      rw [hs] at hz
      exact W2.siz i z hz
    | none =>
      rw [hs] at hz
      obtain ⟨blk,cs,e,fr,q1,q2,q3⟩ := W.siz b z hz
      exact ⟨blk,cs,e,fr,q1,(hobl b blk hs q1).1.trans q2,q3⟩
  · rcases bkH_mp hb with ⟨i,l0,hs,h1,rfl⟩ | ⟨hs,h1⟩
    · obtain ⟨blk,es,clk,q1,q2,q3⟩ := W2.mpo i l0 h1
      exact ⟨blk,es,clk,by simp only [bkG,hs]; exact q1,q2,bkC_mrep gk _ _ q3⟩
    · obtain ⟨blk,es,clk,q1,q2,q3⟩ := W.mpo b l h1
      exact ⟨blk,es,clk,by simp only [bkG,hs]; exact q1,(hobl b blk hs q1).1.trans q2,q3.mono le3⟩
  · simp only [bkG] at hm hm'
    rcases bkH_mp hb with ⟨i,c0,hs,h1,_⟩ | ⟨hs,h1⟩ <;> rcases bkH_mp hb' with ⟨i',c0',hs',h1',_⟩ | ⟨hs',h1'⟩
    · rw [hs] at hm
      rw [hs'] at hm'
      have := W2.mpi i i' _ _ blk h1 h1' hm hm'
      subst this
      rw [← bkR_S hs,← bkR_S hs']
    · rw [hs] at hm
      rw [hs'] at hm'
      exact ((hobl b' blk hs' hm').2.2.1 i hm).elim
    · rw [hs] at hm
      rw [hs'] at hm'
      exact ((hobl b blk hs hm).2.2.1 i' hm').elim
    · rw [hs] at hm
      rw [hs'] at hm'
      exact W.mpi b b' _ _ blk h1 h1' hm hm'
  · obtain ⟨o1,o2,o3,o4⟩ := F.old g hg' (hT1 g ht) (fun i hi => by obtain ⟨q,_,hq⟩ := hμ1 i g hi; exact hm q hq)
    refine ⟨o1,?_,fun b hb => ?_,o4⟩
    · simp only [bkG,o2,ht]; split <;> rfl
    · simp only [bkG] at hb
      cases hs : bkS ρ H.length b with
      | some i => rw [hs] at hb; exact o3 i hb
      | none => rw [hs] at hb; exact hm b hb
end Go.Sx
