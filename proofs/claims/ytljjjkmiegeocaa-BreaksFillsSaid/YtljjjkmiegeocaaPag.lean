/-
  Functions: a contract out of a triple over the body; the run with a bound on rounds. And what follows.
-/
import Derived.Test.YtljjjkmiegeocaaPaf
set_option linter.unusedSimpArgs false
set_option linter.unusedVariables false
namespace Go.Sx
open Go.RowKit
def loopN (body : St → Option (Ex × St)) : Nat → St → Option (Ex × St)
  | 0, _ => none
  | n + 1, st => match body st with
    | some (.normal, st') => loopN body n st'
    | r => r
/-- The shadow run of a piece of code; no loop goes more than n rounds. -/
def sexec (cx : Cx) (n : Nat) : Code → St → Option (Ex × St)
  | .skip, st => some (.normal, st)
  | .label _, st => some (.normal, st)
  | .region _ ops draw, st => if draw then (if regStatic ops = true then (sregionD cx ops st).map fun s => (.normal, s) else none) else (sregion cx ops st).map fun s => (.normal, s)
  | .seq a b, st => match sexec cx n a st with
    | some (.normal, st') => sexec cx n b st'
    | r => r
  | .cond c a b, st => match cx.ev st.env c with
    | .val (.bool true) => sexec cx n a st
    | .val (.bool false) => sexec cx n b st
    | _ => none
  | .block id c, st => match sexec cx n c st with
    | some (.exit k, st') => if k = id then some (.normal, st') else some (.exit k, st')
    | r => r
  | .scope c, st => sexec cx n c st
  | .loop c, st => loopN (sexec cx n c) n st
  | .exit id, st => some (.exit id, st)
  | .ret, st => some (.ret, st)
  | _, _ => none
section
variable {cx : Cx} {n : Nat} {st : St} {Q : Ex → St → Prop} {G : Gh} {w : World} {a : Act}
/-! Results -/
theorem resC_ok (H : Sim cx G w st a) {r : ResultVar} {c : C} (h : resC cx st r = some c) :
    ∃ v, (match r with | .tmp t => pure (a.tmps.getD t undef) | .cell p t => do loadVar t (← asAddr (a.tmps.getD p undef)) : Sem Value).run cx.P w = .ok v w ∧ Rep G c v ∧
      (∀ s m xs, c = .sl (.own s) m xs → ∃ t, r = .tmp t ∧ OwnRow G w (0, t, 0) v s m) := by
  unfold resC at h
  cases r with
  | tmp t =>
    simp only [Option.some.injEq] at h
    subst h
    exact ⟨a.tmps.getD t undef, rfl, H.pre.env.1 t, fun s m xs e => ⟨t, rfl, H.pre.env.2 t s m xs e⟩⟩
  | cell p t =>
    simp only [] at h
    split at h
    · rename_i d b off hd he
      cases hb : st.h.at b with
      | none => rw [hb] at h; cases h
      | some cells =>
        rw [hb] at h
        simp only [Option.bind_some] at h
        have hr := H.pre.env.1 p
        rw [he] at hr
        simp only [Rep] at hr
        obtain ⟨blk, hμ, hv⟩ := hr
        obtain ⟨cs, e, q1, q2, q3, q4, q5, q6⟩ := box_cells H.pre.ok hb hμ
        obtain ⟨v, hv1, hv2, hv3⟩ := getAt_load (P := cx.P) (w := w) (blk := blk) (o0 := 0) hd q2 (fun u hu => q3 u (List.mem_of_mem_take hu)) (fun j u hu => by rw [Nat.zero_add]; exact q4 j u hu) h
        rw [Nat.zero_add] at hv1
        refine ⟨v, ?_, hv2, fun s m xs e => by rw [e] at hv3; exact hv3.elim⟩
        have hv' : a.tmps.getD p undef = .pointer (some ⟨blk, off, none⟩) := hv
        simp only [Sem.run_bind, hv', asAddr, Sem.run_pure, Result.andThen_ok]
        simpa [Instr.loadAt, Instr.sureAddr] using hv1
    · cases h
theorem resL_ok (H : Sim cx G w st a) : ∀ (rs : List ResultVar) {cs : List C}, rs.mapM (resC cx st) = some cs →
    ∃ vs : List Value, (rs.mapM (fun r => (match r with | .tmp t => pure (a.tmps.getD t undef) | .cell p t => do loadVar t (← asAddr (a.tmps.getD p undef)) : Sem Value))).run cx.P w = .ok vs w ∧ RepL G cs vs
  | [], cs, h => by
    simp at h; subst h; exact ⟨[], by simp, by simp [RepL]⟩
  | r :: rs, cs, h => by
    simp only [List.mapM_cons, Option.bind_eq_bind, Option.pure_def] at h
    cases hr : resC cx st r with
    | none => simp [hr] at h
    | some c =>
      cases hrs : rs.mapM (resC cx st) with
      | none => simp [hr, hrs] at h
      | some cs' =>
        simp [hr, hrs] at h
        subst h
        obtain ⟨v, h1, h2, _⟩ := resC_ok H hr
        obtain ⟨vs, h3, h4⟩ := resL_ok H rs hrs
        refine ⟨v :: vs, ?_, by simp only [RepL]; exact ⟨v, vs, rfl, h2, h4⟩⟩
        simp only [List.mapM_cons, Sem.run_bind, h1, Result.andThen_ok, h3, Sem.run_pure]
theorem results_ok (H : Sim cx G w st a) {fn : Func} {c : C} (h : results cx fn st = some c) :
    ∃ v G', (Go.results fn a.tmps).run cx.P w = .ok v w ∧ Rep G' c v ∧ (∀ s m xs, c = .sl (.own s) m xs → OwnRow G' w (2, 0, 0) v s m) ∧ WorldOK G' st.h w ∧ FrmN n G w G' w ∧ (∀ c' v', Rep G c' v' → Rep G' c' v') ∧ G'.μ = G.μ := by
  unfold results at h
  unfold Go.results
  have hl : (fn.results.mapM (fun r => (match r with | .tmp t => pure (a.tmps.getD t undef) | .cell p t => do loadVar t (← asAddr (a.tmps.getD p undef)) : Sem Value))).run cx.P w =
      ((fn.results.toList.mapM (fun r => (match r with | .tmp t => pure (a.tmps.getD t undef) | .cell p t => do loadVar t (← asAddr (a.tmps.getD p undef)) : Sem Value))).run cx.P w).andThen fun vs w' => .ok vs.toArray w' := by
    rw [Array.mapM_eq_mapM_toList, Sem.run_map]
  split at h
  · rename_i r hrs
    obtain ⟨v, h1, h2, h3⟩ := resC_ok H h
    have hrun : (fn.results.mapM (fun r => (match r with | .tmp t => pure (a.tmps.getD t undef) | .cell p t => do loadVar t (← asAddr (a.tmps.getD p undef)) : Sem Value))).run cx.P w = .ok #[v] w → 
        ((do let vs ← fn.results.mapM (fun r => (match r with | .tmp t => pure (a.tmps.getD t undef) | .cell p t => do loadVar t (← asAddr (a.tmps.getD p undef)) : Sem Value)); pure (if h : vs.size = 1 then vs[0] else .tuple vs)) : Sem Value).run cx.P w = .ok v w := fun hq => by
      simp only [Sem.run_bind, hq, Result.andThen_ok, Sem.run_pure]
      rfl
    have hone := hrun (by rw [hl, hrs]; simp only [List.mapM_cons, List.mapM_nil, Sem.run_bind, h1, Result.andThen_ok, Sem.run_pure])
    by_cases hno : c.noOwn
    · exact ⟨v, G, hone, h2, fun s m xs e => by rw [e] at hno; exact hno.elim, H.pre.ok, FrmN.refl n G w, fun _ _ x => x, rfl⟩
    · obtain ⟨s, m, xs, hs⟩ : ∃ s m xs, c = .sl (.own s) m xs := by
        cases c with
        | sl r m xs => cases r with
          | own s => exact ⟨_, _, _, rfl⟩
          | no => exact absurd trivial hno
          | full => exact absurd trivial hno
        | _ => exact absurd trivial hno
      obtain ⟨t, rfl, O⟩ := h3 s m xs hs
      rcases O with O | ⟨g, cap, cur, e, a1, a2, a3, a4, a5, a6⟩
      · exact ⟨v, G, hone, h2, fun s' m' xs' e => by rw [hs] at e; cases e; exact .inl O, H.pre.ok, FrmN.refl n G w, fun _ _ x => x, rfl⟩
      · have le : G.Le (setT G g (some (2, 0, 0))) := ⟨fun _ _ _ x => x, fun _ _ x => x, fun _ _ x => x⟩
        refine ⟨v, setT G g (some (2, 0, 0)), hone, h2.mono le, fun s' m' xs' e' => ?_, retag_ok H.pre.ok a2, .of (frm_retag a2), fun c' v' x => x.mono le, rfl⟩
        rw [hs] at e'
        cases e'
        exact .inr ⟨g, cap, cur, e, a1, by simp [setT], a3, a4, a5, a6⟩
  · rename_i rs hrs
    cases hm : fn.results.toList.mapM (resC cx st) with
    | none => rw [hm] at h; cases h
    | some cs =>
      rw [hm] at h
      simp only [Option.map_some, Option.some.injEq] at h
      subst h
      obtain ⟨vs, h1, h2⟩ := resL_ok H _ hm
      refine ⟨.tuple vs.toArray, G, ?_, ?_, (fun s m xs e => by cases e), H.pre.ok, FrmN.refl n G w, fun _ _ x => x, rfl⟩
      · have := hl
        rw [h1] at this
        simp only [Result.andThen_ok] at this
        have hlen : vs.length ≠ 1 := by
          intro e
          have h3 := h2.length
          have h4 : cs.length = fn.results.toList.length := by
            have key : ∀ (l : List ResultVar) (ds : List C), l.mapM (resC cx st) = some ds → ds.length = l.length := by
              intro l
              induction l with
              | nil => intro ds hd; simp at hd; subst hd; rfl
              | cons r l ih =>
                intro ds hd
                simp only [List.mapM_cons, Option.bind_eq_bind, Option.pure_def] at hd
                cases hr : resC cx st r with
                | none => simp [hr] at hd
                | some c =>
                  cases hrs : l.mapM (resC cx st) with
                  | none => simp [hr, hrs] at hd
                  | some ds' => simp [hr, hrs] at hd; subst hd; simp [ih ds' hrs]
            exact key _ _ hm
          have h5 : fn.results.toList.length = 1 := by omega
          obtain ⟨r, hr⟩ := List.length_eq_one_iff.1 h5
          exact hrs r hr
        have hrun : ((do let vs ← fn.results.mapM (fun r => (match r with | .tmp t => pure (a.tmps.getD t undef) | .cell p t => do loadVar t (← asAddr (a.tmps.getD p undef)) : Sem Value)); pure (if h : vs.size = 1 then vs[0] else .tuple vs)) : Sem Value).run cx.P w = .ok (.tuple vs.toArray) w := by
          simp only [Sem.run_bind, this, Result.andThen_ok, Sem.run_pure]
          rw [dif_neg (by simpa using hlen)]
        exact hrun
      · simp only [Rep]
        exact ⟨_, rfl, by simpa using h2.map_noR⟩
/-- How a body may end. -/
def Ends (cx : Cx) (fn : Func) (k : Nat) (c : C) (h' : Hp) : Ex → St → Prop
  | .exit _, _ => False
  | _, st' => results cx fn st' = some c ∧ ((st'.h.take k = h' ∧ noRef k c = true ∧ ∀ b cells, b < k → st'.h.at b = some cells → noRefs k cells = true) ∨ st'.h = h')
theorem FC.of_tr {f : Nat} {fn : Func} {code : Code} {args : List C} {h h' : Hp} {c : C} (hf : cx.P.funcs[f]? = some fn) (hn : (fn.name == "runtime.NumGoroutine") = false) (hb : fn.body = some code)
    (hlen : args.length ≤ fn.ntmps) (hT : Tr { cx with N := fn.ntmps } h.length code ⟨init args, h⟩ (Ends cx fn h.length c h')) : FC cx.P cx.gl f args h c h' := by
  refine ⟨⟨fn, hf, hn, by rw [hb]; rfl⟩, fun G w vs W hTg hgl hr => ?_⟩
  have hvl : vs.size = args.length := by rw [hr.length]; simp
  refine calls_of_wp hf hb ?_
  have hsim : Sim { cx with N := fn.ntmps } G w ⟨init args, h⟩ { tmps := vs ++ Array.replicate (fn.ntmps - vs.size) undef, defers := [] } := by
    refine ⟨rfl, by simp; omega, W, ⟨fun t => ?_, fun t s m xs e => (noR_own e).elim⟩, hgl⟩
    simp only [init, av, Array.getD_eq_getD_getElem?]
    refine Rep.noR ?_
    cases hq : args[t]? with
    | some x =>
      obtain ⟨v, hv, hrv⟩ := hr.get t x hq
      have hlt : t < vs.size := by
        have := (List.getElem?_eq_some_iff.1 hv).1
        simpa using this
      rw [Array.getElem?_append_left hlt]
      have hv' : vs[t]? = some v := by simpa using hv
      rw [hv']
      exact hrv
    | none =>
      have hge : vs.size ≤ t := by
        have := List.getElem?_eq_none_iff.1 hq
        omega
      rw [Array.getElem?_append_right hge]
      simp only [Option.getD_none]
      rw [rep_val]
      cases hq2 : (Array.replicate (fn.ntmps - vs.size) undef)[t - vs.size]? with
      | none => rfl
      | some u =>
        rw [Array.getElem?_replicate] at hq2
        split at hq2
        · cases hq2; rfl
        · cases hq2
  have fin : ∀ (st' : St) (G' : Gh) (w' : World) (a' : Act), (results cx fn st' = some c ∧ ((st'.h.take h.length = h' ∧ noRef h.length c = true ∧ ∀ b cells, b < h.length → st'.h.at b = some cells → noRefs h.length cells = true) ∨ st'.h = h')) →
      Sim { cx with N := fn.ntmps } G' w' st' a' → FrmN h.length G w G' w' →
      a'.defers = [] ∧ ∃ v, (Go.results fn a'.tmps).run cx.P w' = .ok v w' ∧ ∃ v' G', Ending.returned v = .returned v' ∧ Rep G' c v' ∧ (∀ s n xs, c = .sl (.own s) n xs → OwnRow G' w' (2, 0, 0) v' s n) ∧ WorldOK G' h' w' ∧ Frm G w G' w' := by
    rintro st' G' w' a' ⟨hres, hend⟩ S F
    obtain ⟨v, G2, r1, r2, r3, r4, r5, r6, r7⟩ := results_ok (cx := { cx with N := fn.ntmps }) (n := h.length) S (fn := fn) (c := c) hres
    have F2 := F.trans r5
    have full : ∀ G3, FrmN h.length G w G3 w' → Frm G w G3 w' := fun G3 F3 =>
      ⟨F3.os, F3.tape, F3.output, F3.size, ⟨F3.K, fun b k hm => F3.μ b k (by
        obtain ⟨⟨cells, hc⟩, _⟩ := W.dom b k hm
        exact (List.getElem?_eq_some_iff.1 hc).1) hm, fun b z hz => F3.σ b z (by
        obtain ⟨k, _, _, _, hm, _⟩ := W.siz b z hz
        obtain ⟨⟨cells, hc⟩, _⟩ := W.dom b k hm
        exact (List.getElem?_eq_some_iff.1 hc).1) hz⟩, F3.old⟩
    refine ⟨S.defers, v, r1, ?_⟩
    rcases hend with ⟨rfl, hnc, hnb⟩ | rfl
    · exact ⟨v, cutμ G2 h.length, rfl, noRef_rep _ _ hnc r2, fun s m xs e => (r3 s m xs e).cut _, r4.cut _ hnb, full _ (F2.trans (frmN_cut (Nat.le_refl _)))⟩
    · exact ⟨v, G2, rfl, r2, r3, r4, full _ F2⟩
  refine hT G w _ hsim _ fun x st' G' w' a' hx S F => ?_
  cases x with
  | exit k => exact hx.elim
  | normal => exact fin st' G' w' a' hx S F
  | ret => exact fin st' G' w' a' hx S F
end
end Go.Sx
namespace Go.Sx
open Go.RowKit
theorem isApp_iff (ops : Array Oper) (d : Option Nat) : isApp ops d = (match d with | some t => (ops.toList.filterMap appOf).contains t | none => false) := by
  cases d <;> rfl
/-- The plan of an operation where the appends' first operands are listed. -/
def splanA (cx : Cx) (apps : List Nat) (o : Oper) (env : Nat → C) : Option Plan :=
  match o.op with
  | .move (.tmp p) => some (if ((match o.dst with | some t => apps.contains t | none => false) || (match o.dst.map (· + 1000000) with | some t => apps.contains t | none => false)) then .val (env p) (some p) else .pure (env p).noR)
  | .load t x => loadPlan cx.P (match o.dst with | some t => apps.contains t | none => false) t (cx.evn env x)
  | _ => splan cx #[] o env
theorem splanA_eq (cx : Cx) (ops : Array Oper) (o : Oper) (env : Nat → C) : splanA cx (ops.toList.filterMap appOf) o env = splan cx ops o env := by
  unfold splanA
  split
  · rename_i p ho
    unfold splan
    rw [ho]
    simp only [isMv, isApp_iff]
    rfl
  · rename_i t x ho
    unfold splan
    rw [ho]
    simp only [isApp_iff]
    rfl
  · rename_i h1 h2
    unfold splan
    simp only []
    split <;> first | rfl | skip
    · rename_i x ho
      cases x with
      | tmp p => exact absurd ho (h1 p)
      | _ => rfl
    · rename_i t x ho
      exact absurd ho (h2 t x)
/-- Is an operation to be made, where the slots of the region's operations are listed? -/
def wantedA (dsts : List (Option Nat)) (g : Option (Nat × Bool)) (env : Nat → C) : Option Bool :=
  match g with
  | none => some true
  | some (j, want) => match (dsts[j]?).bind id with
    | none => some false
    | some t => match (env t).noR with
      | .val (.bool b) => some (b == want)
      | .val (.tuple _) => some false
      | _ => none
theorem wantedA_eq (ops : Array Oper) (o : Oper) (env : Nat → C) : wantedA (ops.toList.map (·.dst)) o.guard env = wantedS ops o env := by
  unfold wantedA wantedS
  cases o.guard with
  | none => rfl
  | some g =>
    obtain ⟨j, want⟩ := g
    simp only []
    have : ((ops.toList.map (·.dst))[j]?).bind id = (ops[j]?).bind (·.dst) := by
      rw [List.getElem?_map, Array.getElem?_toList]
      cases ops[j]? <;> rfl
    rw [this]
    rfl
/-- One operation, then the rest. -/
def act1 (cx : Cx) (id : Nat) (d : Option Nat) (st : St) (K : St → Prop) (p : Option Plan) : Prop :=
  match p with
  | none => False
  | some p => match actH cx id p st.h with
    | none => False
    | some (c, k, h') => K ⟨put d c (killS k st.env), h'⟩
/-- A region, operation by operation; K: what is to hold behind it. -/
def runE (cx : Cx) (apps : List Nat) (dsts : List (Option Nat)) : List Oper → Nat → St → (St → Prop) → Prop
  | [], _, st, K => K st
  | o :: l, id, st, K => dstOK cx.N o.dst = true ∧ match wantedA dsts o.guard st.env with
    | none => False
    | some false => runE cx apps dsts l (if makes o then id + 1 else id) ⟨put o.dst (.val undef) st.env, st.h⟩ K
    | some true => act1 cx id o.dst st (fun s => runE cx apps dsts l (if makes o then id + 1 else id) s K) (splanA cx apps o st.env)
theorem cnt_succ (ops : Array Oper) (k : Nat) (o : Oper) (h : ops[k]? = some o) : cnt ops (k + 1) = if makes o then cnt ops k + 1 else cnt ops k := by
  unfold cnt
  have h' : ops.toList[k]? = some o := by simpa using h
  rw [List.take_add_one, h']
  simp only [Option.toList_some, List.countP_append, List.countP_singleton]
  split <;> simp
theorem runE_steps {cx : Cx} {ops : Array Oper} {base : Nat} {K : St → Prop} : ∀ (l : List Oper) (k : Nat) (st : St), ops.toList.drop k = l →
    runE cx (ops.toList.filterMap appOf) (ops.toList.map (·.dst)) l (base + cnt ops k) st K → ∃ st', steps cx ops base (List.range' k l.length) st = some st' ∧ K st'
  | [], k, st, _, h => ⟨st, rfl, h⟩
  | o :: l, k, st, hl, h => by
    have hk : ops[k]? = some o := by
      have : (ops.toList.drop k)[0]? = some o := by rw [hl]; rfl
      rw [List.getElem?_drop] at this
      simpa using this
    have hl' : ops.toList.drop (k + 1) = l := by rw [← List.drop_drop, hl]; rfl
    simp only [runE] at h
    obtain ⟨hd, h⟩ := h
    rw [wantedA_eq, splanA_eq] at h
    have hid : (if makes o then base + cnt ops k + 1 else base + cnt ops k) = base + cnt ops (k + 1) := by
      rw [cnt_succ ops k o hk]; split <;> omega
    rw [hid] at h
    simp only [List.length_cons, List.range'_succ, steps]
    have next : ∀ s, runE cx (ops.toList.filterMap appOf) (ops.toList.map (·.dst)) l (base + cnt ops (k + 1)) s K → step cx ops base k st = some s → ∃ st', (step cx ops base k st).bind (steps cx ops base (List.range' (k + 1) l.length)) = some st' ∧ K st' := fun s hs hst => by
      obtain ⟨st', h1, h2⟩ := runE_steps l (k + 1) s hl' hs
      exact ⟨st', by rw [hst]; exact h1, h2⟩
    cases hw : wantedS ops o st.env with
    | none => rw [hw] at h; exact h.elim
    | some b =>
      rw [hw] at h
      cases b with
      | false =>
        refine next _ h ?_
        unfold step
        rw [hk]
        simp only [hd, if_true, hw]
      | true =>
        simp only [act1] at h
        cases hp : splan cx ops o st.env with
        | none => rw [hp] at h; exact h.elim
        | some p =>
          rw [hp] at h
          simp only [] at h
          cases ha : actH cx (base + cnt ops k) p st.h with
          | none => rw [ha] at h; exact h.elim
          | some r =>
            rw [ha] at h
            refine next _ h ?_
            unfold step
            rw [hk]
            simp only [hd, if_true, hw, hp, act, ha, Option.map_some]
/-- A region, in order. -/
theorem Tr.regionE {cx : Cx} {n : Nat} {st : St} {Q : Ex → St → Prop} (hcx : CxOK cx) {id : Nat} {l : List Oper} (h : runE cx (l.filterMap appOf) (l.map (·.dst)) l st.h.length ⟨st.env, st.h ++ List.replicate (l.countP makes) none⟩ (Q .normal)) :
    Tr cx n (.region id l.toArray false) st Q := by
  have h' : runE cx (l.toArray.toList.filterMap appOf) (l.toArray.toList.map (·.dst)) l (st.h.length + cnt l.toArray 0) ⟨st.env, st.h ++ List.replicate (l.countP makes) none⟩ (Q .normal) := by simpa [cnt] using h
  obtain ⟨st', h1, h2⟩ := runE_steps l 0 _ (by simp) h'
  refine Tr.region hcx (st' := st') ?_ h2
  unfold sregion
  have hc : cnt l.toArray l.toArray.size = l.countP makes := by simp [cnt]
  rw [hc, List.range_eq_range']
  simpa using h1
/-! The same for a region that draws its order: what each operation touches is listed. -/
def act1D (cx : Cx) (id : Nat) (d : Option Nat) (st : St) (K : FP → St → Prop) (p : Option Plan) : Prop :=
  match p with
  | none => False
  | some p => match actH cx id p st.h with
    | none => False
    | some (c, k, h') => K (fpOf id p) ⟨put d c (killS k st.env), h'⟩
def runD (cx : Cx) (apps : List Nat) (dsts : List (Option Nat)) : List Oper → Nat → St → List FP → (List FP → St → Prop) → Prop
  | [], _, st, fs, K => K fs st
  | o :: l, id, st, fs, K => dstOK cx.N o.dst = true ∧ match wantedA dsts o.guard st.env with
    | none => False
    | some false => runD cx apps dsts l (if makes o then id + 1 else id) ⟨put o.dst (.val undef) st.env, st.h⟩ ((0, 0) :: fs) K
    | some true => act1D cx id o.dst st (fun f s => runD cx apps dsts l (if makes o then id + 1 else id) s (f :: fs) K) (splanA cx apps o st.env)
theorem runD_runL {cx : Cx} {ops : Array Oper} {base : Nat} {K : List FP → St → Prop} : ∀ (l : List Oper) (k : Nat) (st : St) (fs : List FP), ops.toList.drop k = l →
    runD cx (ops.toList.filterMap appOf) (ops.toList.map (·.dst)) l (base + cnt ops k) st fs K → ∃ st' gs, runL cx ops base (List.range' k l.length) st = some (st', gs) ∧ K (gs.reverse ++ fs) st'
  | [], k, st, fs, _, h => ⟨st, [], rfl, h⟩
  | o :: l, k, st, fs, hl, h => by
    have hk : ops[k]? = some o := by
      have : (ops.toList.drop k)[0]? = some o := by rw [hl]; rfl
      rw [List.getElem?_drop] at this
      simpa using this
    have hl' : ops.toList.drop (k + 1) = l := by rw [← List.drop_drop, hl]; rfl
    simp only [runD] at h
    obtain ⟨hd, h⟩ := h
    rw [wantedA_eq, splanA_eq] at h
    have hid : (if makes o then base + cnt ops k + 1 else base + cnt ops k) = base + cnt ops (k + 1) := by
      rw [cnt_succ ops k o hk]; split <;> omega
    rw [hid] at h
    simp only [List.length_cons, List.range'_succ, runL]
    have next : ∀ s f, runD cx (ops.toList.filterMap appOf) (ops.toList.map (·.dst)) l (base + cnt ops (k + 1)) s (f :: fs) K → stepF cx ops base k st = some (s, f) →
        ∃ st' gs, (match stepF cx ops base k st with | none => none | some (st', f) => (runL cx ops base (List.range' (k + 1) l.length) st').map fun r => (r.1, f :: r.2)) = some (st', gs) ∧ K (gs.reverse ++ fs) st' := fun s f hs hst => by
      obtain ⟨st', gs, h1, h2⟩ := runD_runL l (k + 1) s (f :: fs) hl' hs
      refine ⟨st', f :: gs, by rw [hst]; simp only [h1, Option.map_some], ?_⟩
      simpa using h2
    cases hw : wantedS ops o st.env with
    | none => rw [hw] at h; exact h.elim
    | some b =>
      rw [hw] at h
      cases b with
      | false =>
        refine next _ _ h ?_
        unfold stepF eff
        rw [hk]
        simp only [hd, if_true, hw, Option.map_some, killS]
      | true =>
        simp only [act1D] at h
        cases hp : splan cx ops o st.env with
        | none => rw [hp] at h; exact h.elim
        | some p =>
          rw [hp] at h
          simp only [] at h
          cases ha : actH cx (base + cnt ops k) p st.h with
          | none => rw [ha] at h; exact h.elim
          | some r =>
            rw [ha] at h
            refine next _ _ h ?_
            unfold stepF eff
            rw [hk]
            simp only [hd, if_true, hw, hp, ha, Option.map_some]
theorem Tr.regionDE {cx : Cx} {n : Nat} {st : St} {Q : Ex → St → Prop} (hcx : CxOK cx) (hm : cx.P.follows .mixedOrders = true) {id : Nat} {l : List Oper} (hs : regStatic l.toArray = true)
    (h : runD cx (l.filterMap appOf) (l.map (·.dst)) l st.h.length ⟨st.env, st.h ++ List.replicate (l.countP makes) none⟩ [] (fun fs s => confsOK l.toArray fs.reverse = true ∧ Q .normal s)) :
    Tr cx n (.region id l.toArray true) st Q := by
  have h' : runD cx (l.toArray.toList.filterMap appOf) (l.toArray.toList.map (·.dst)) l (st.h.length + cnt l.toArray 0) ⟨st.env, st.h ++ List.replicate (l.countP makes) none⟩ [] (fun fs s => confsOK l.toArray fs.reverse = true ∧ Q .normal s) := by simpa [cnt] using h
  obtain ⟨st', gs, h1, h2, h3⟩ := runD_runL l 0 _ [] (by simp) h'
  refine Tr.regionD hcx hm (st' := st') hs ?_ h3
  unfold sregionD
  have hc : cnt l.toArray l.toArray.size = l.countP makes := by simp [cnt]
  rw [hc, List.range_eq_range']
  have h1' : runL cx l.toArray st.h.length (List.range' 0 l.toArray.size) ⟨st.env, st.h ++ List.replicate (l.countP makes) none⟩ = some (st', gs) := by simpa using h1
  rw [h1']
  simp only [List.append_nil, List.reverse_reverse] at h2
  simp only [h2, if_true]
/-- A contract, the slots' number told apart. -/
theorem FC.of {cx : Cx} {f : Nat} {fn : Func} {code : Code} {args : List C} {h h' : Hp} {c : C} (hN : cx.N = fn.ntmps) (hf : cx.P.funcs[f]? = some fn) (hn : (fn.name == "runtime.NumGoroutine") = false) (hb : fn.body = some code)
    (hlen : args.length ≤ fn.ntmps) (hT : Tr cx h.length code ⟨init args, h⟩ (Ends cx fn h.length c h')) : FC cx.P cx.gl f args h c h' := by
  refine FC.of_tr hf hn hb hlen ?_
  obtain ⟨P, N, gl, pu, hp⟩ := cx
  simp only [] at hN
  subst hN
  exact hT
theorem Tr.seqK {cx : Cx} {n : Nat} {st : St} {Q : Ex → St → Prop} {a b : Code} (h : ∀ K : St → Prop, (∀ s, Tr cx n b s Q → K s) → Tr cx n a st (thenQ K Q)) : Tr cx n (.seq a b) st Q :=
  Tr.seq (h _ fun _ x => x)
end Go.Sx
namespace Go.Sx
open Go.RowKit
/-- A frame: the slots that are known. -/
def A : List (Nat × C) → Nat → C
  | [], _ => .top
  | (k, c) :: l, t => if t = k then c else A l t
def Le (env : Nat → C) : List (Nat × C) → Prop
  | [] => True
  | (k, c) :: l => CLe (env k) c ∧ Le env l
theorem Le.spec {env : Nat → C} : ∀ {l : List (Nat × C)}, Le env l → ∀ t, CLe (env t) (A l t)
  | [], _, t => CLe.top _
  | (k, c) :: l, h, t => by
    unfold A
    split
    · rename_i e; subst e; exact h.1
    · exact Le.spec h.2 t
section
variable {cx : Cx} {n : Nat} {st : St} {Q : Ex → St → Prop}
theorem Tr.live {c : Code} (l : List (Nat × C)) (h : Le st.env l) (k : Tr cx n c ⟨A l, st.h⟩ Q) : Tr cx n c st Q :=
  Tr.weaken (fun t => h.spec t) k
/-- What is known of a state at a join: one of the frames I a, boxes H a. -/
def At {α : Type} (I : α → List (Nat × C)) (H : α → Hp) (ok : α → Prop) (s : St) : Prop := ∃ a, ok a ∧ Le s.env (I a) ∧ s.h = H a
theorem Tr.ofAt {α : Type} {I : α → List (Nat × C)} {H : α → Hp} {ok : α → Prop} {c : Code} {s : St} (hs : At I H ok s) (h : ∀ a, ok a → Tr cx n c ⟨A (I a), H a⟩ Q) : Tr cx n c s Q := by
  obtain ⟨a, h1, h2, h3⟩ := hs
  refine Tr.live _ h2 ?_
  rw [h3]
  exact h a h1
/-- A join. -/
theorem Tr.seqJ {α : Type} (I : α → List (Nat × C)) (H : α → Hp) (ok : α → Prop) {x y : Code} (h1 : Tr cx n x st (thenQ (At I H ok) Q)) (h2 : ∀ a, ok a → Tr cx n y ⟨A (I a), H a⟩ Q) : Tr cx n (.seq x y) st Q :=
  Tr.seq (h1.mono fun e s q => by
    cases e with
    | normal => exact Tr.ofAt q h2
    | exit id => exact q
    | ret => exact q)
/-- A loop. -/
theorem Tr.loopI {α : Type} (I : α → List (Nat × C)) (H : α → Hp) (ok : α → Prop) (μ : α → Nat) {c : Code} (a : α) (h0 : ok a) (hl : Le st.env (I a)) (hh : st.h = H a)
    (hb : ∀ a, ok a → Tr cx n c ⟨A (I a), H a⟩ (thenQ (At I H fun a' => ok a' ∧ μ a' < μ a) Q)) : Tr cx n (.loop c) st Q := by
  refine Tr.loop (fun m s => ∃ a, μ a = m ∧ ok a ∧ Le s.env (I a) ∧ s.h = H a) (μ a) ⟨a, rfl, h0, hl, hh⟩ ?_
  rintro m s ⟨a, rfl, h1, h2, h3⟩
  refine Tr.live _ h2 ?_
  rw [h3]
  refine (hb a h1).mono fun e s q => ?_
  cases e with
  | normal =>
    obtain ⟨a', ⟨q1, q2⟩, q3, q4⟩ := q
    exact ⟨μ a', q2, a', rfl, q1, q3, q4⟩
  | exit id => exact q
  | ret => exact q
end
/-- A contract over no boxes holds over any. -/
theorem FC.frame {P : Program} {gl : Nat → C} {f : Nat} {args : List C} {c : C} (hf : FC P gl f args [] c []) (ha : noRefs 0 args = true) (hg : ∀ g, noRef 0 (gl g) = true) (h : Hp) : FC P gl f args h c h := by
  obtain ⟨he, hf⟩ := hf
  refine ⟨he, fun G w vs W hTg hgl hr => ?_⟩
  have le1 : (cutμ G 0).Le { K := G.K, μ := fun _ => none, T := fun _ => none } := ⟨fun _ _ _ x => x, fun b k x => by simp [cutμ] at x, fun b k x => by simp [cutμ] at x⟩
  have hn : ∀ b, Hp.at [] b = none := fun b => by simp [Hp.at]
  refine Calls.mono (hf { K := G.K, μ := fun _ => none, T := fun _ => none } w vs ⟨W.known, (fun b cells x => by rw [hn] at x; cases x), (fun b blk x => by cases x), (fun b b' c c' blk _ _ x => by cases x), (fun b blk x => by cases x), (fun g p x => by cases x), (fun b cells off s n xs blk v x => by rw [hn] at x; cases x), (fun b z x => by cases x)⟩
    (fun g p x => by cases x) (fun g => (noRef_rep _ _ (hg g) (hgl g)).mono le1) ((noRef_repL _ _ ha hr).mono le1)) ?_
  rintro e w' ⟨v, G2, rfl, rv, ro, W2, F⟩
  have hμ2 : ∀ b k, G2.μ b ≠ some k := fun b k x => by
    obtain ⟨⟨cells, hc⟩, _⟩ := W2.dom b k x
    simp at hc
  have hσ2 : ∀ b k, G2.σ b ≠ some k := fun b k x => by
    obtain ⟨blk, _, _, _, q, _⟩ := W2.siz b k x
    exact hμ2 b blk q
  have old := fun g (hg : g < w.heap.size) => F.old g hg rfl (fun b x => by cases x)
  have hμlt : ∀ b blk, G.μ b = some blk → blk < w.heap.size := fun b blk x => by
    exact (W.dom b blk x).2
  let G3 : Gh := { K := G2.K, μ := G.μ, T := fun g => if g < w.heap.size then G.T g else G2.T g, σ := G.σ }
  have le23 : G2.Le G3 := ⟨fun _ _ _ x => x, fun b k x => (hμ2 b k x).elim, fun b k x => (hσ2 b k x).elim⟩
  have le13 : G.Le G3 := ⟨fun b o u x => F.le.K b o u x, fun _ _ x => x, fun _ _ x => x⟩
  refine ⟨v, G3, rfl, rv.mono le23, fun s n xs e => ?_, ⟨W2.known, fun b cells hc => ?_, fun b blk x => ⟨(W.dom b blk x).1, Nat.lt_of_lt_of_le (W.dom b blk x).2 F.size⟩, W.inj, fun b blk x => ?_, fun g p x => ?_, fun b cells off s n xs blk v hc hx hm hv => ?_, fun b z hz => ?_⟩, F.os, F.tape, F.output, F.size, le13, fun g hg ht hm => ?_⟩
  · rcases ro s n xs e with O | ⟨g, cap, cur, e, a1, a2, a3, a4, a5, a6⟩
    · exact .inl O
    · refine .inr ⟨g, cap, cur, e, a1, ?_, a3, a4, a5, fun b x => ?_⟩
      · have : ¬ g < w.heap.size := fun hlt => by rw [(old g hlt).2.1] at a2; cases a2
        show (if g < w.heap.size then G.T g else G2.T g) = _
        rw [if_neg this]; exact a2
      · have hlt := hμlt b g x
        rw [(old g hlt).2.1] at a2; cases a2
  · rcases W.box b cells hc with hE | ⟨blk, cs, e, q1, q2, q0, q3, q4⟩
    · exact .inl hE
    · exact .inr ⟨blk, cs, e, q1, by rw [(old blk (hμlt b blk q1)).1]; exact q2, q0, q3.mono le13, q4⟩
  · have hlt := hμlt b blk x
    refine ⟨fun o => ((old blk hlt).2.2.2 o).trans ((W.sep b blk x).1 o), ?_⟩
    show (if blk < w.heap.size then G.T blk else G2.T blk) = none
    rw [if_pos hlt]
    exact (W.sep b blk x).2
  · have x' : (if g < w.heap.size then G.T g else G2.T g) = some p := x
    split at x'
    · exact Nat.lt_of_lt_of_le (W.tlt g p x') F.size
    · exact W2.tlt g p x'
  · have hlt := hμlt b blk hm
    have hv' : w.cell? ⟨blk, off, none⟩ = some v := by
      rw [← hv]
      unfold World.cell?
      rw [(old blk hlt).1]
    rcases W.own b cells off s n xs blk v hc hx hm hv' with O | ⟨g, cap, cur, e, a1, a2, a3, a4, a5, a6⟩
    · exact .inl O
    · have hlt := W.tlt g _ a2
      refine .inr ⟨g, cap, cur, e, a1, ?_, (old g hlt).1.trans a3, a4, fun o ho => ((old g hlt).2.2.2 o).trans (a5 o ho), a6⟩
      show (if g < w.heap.size then G.T g else G2.T g) = _
      rw [if_pos hlt]; exact a2
  · obtain ⟨blk, cs, e, fr, q1, q2, q3⟩ := W.siz b z hz
    exact ⟨blk, cs, e, fr, q1, (old blk (hμlt b blk q1)).1.trans q2, q3⟩
  · obtain ⟨b1, b2, b3, b4⟩ := old g hg
    refine ⟨b1, ?_, hm, b4⟩
    show (if g < w.heap.size then G.T g else G2.T g) = none
    rw [if_pos hg]; exact ht
end Go.Sx
namespace Go.Sx
open Go.RowKit
def nones : List Oper → Hp
  | [] => []
  | o :: l => if makes o then none :: nones l else nones l
theorem nones_eq : ∀ l : List Oper, nones l = List.replicate (l.countP makes) none
  | [] => rfl
  | o :: l => by
    unfold nones
    rw [List.countP_cons, nones_eq l]
    split <;> simp_all [List.replicate_succ]
def ini : Nat → List C → List (Nat × C)
  | _, [] => []
  | k, c :: cs => (k, c.noR) :: ini (k + 1) cs
theorem A_ini : ∀ (l : List C) (k t : Nat), A (ini k l) t = if k ≤ t then (match l[t - k]? with | some c => c.noR | none => .top) else .top
  | [], k, t => by simp [ini, A]
  | c :: l, k, t => by
    simp only [ini, A, A_ini l (k + 1) t]
    by_cases h : t = k
    · subst h; simp
    · simp only [if_neg h]
      by_cases h2 : k ≤ t
      · have h3 : k + 1 ≤ t := by omega
        simp only [h2, h3, if_true]
        have : t - k = (t - (k + 1)) + 1 := by omega
        rw [this]; simp
      · have h3 : ¬ k + 1 ≤ t := by omega
        simp only [h2, h3, if_false]
theorem CLe.init (args : List C) (t : Nat) : CLe (init args t) (A (ini 0 args) t) := by
  rw [A_ini]
  simp only [Nat.zero_le, if_true, Nat.sub_zero]
  unfold Sx.init
  cases args[t]? with
  | none => exact CLe.top _
  | some c => exact CLe.refl _
section
variable {cx : Cx} {n : Nat} {Q : Ex → St → Prop} {e : List (Nat × C)} {h : Hp}
theorem Tr.reg (hcx : CxOK cx) {id : Nat} {l : List Oper} (H : runE cx (l.filterMap appOf) (l.map (·.dst)) l h.length ⟨A e, h ++ nones l⟩ (Q .normal)) : Tr cx n (.region id l.toArray false) ⟨A e, h⟩ Q := by
  rw [nones_eq] at H
  exact Tr.regionE hcx H
theorem Tr.regD (hcx : CxOK cx) (hm : cx.P.follows .mixedOrders = true) {id : Nat} {l : List Oper} (hs : regStatic l.toArray = true)
    (H : runD cx (l.filterMap appOf) (l.map (·.dst)) l h.length ⟨A e, h ++ nones l⟩ [] (fun fs s => confsOK l.toArray fs.reverse = true ∧ Q .normal s)) : Tr cx n (.region id l.toArray true) ⟨A e, h⟩ Q := by
  rw [nones_eq] at H
  exact Tr.regionDE hcx hm hs H
theorem Tr.blk {id : Nat} {c : Code} {st : St} (H : Tr cx n c st (blockQ id Q)) : Tr cx n (.block id c) st Q := Tr.block H
end
def resL (cx : Cx) (st : St) : List ResultVar → Option C
  | [r] => resC cx st r
  | rs => (rs.mapM (resC cx st)).map fun cs => .tup (cs.map C.noR)
/-- A body's end: the results read as c. -/
def EndsR (cx : Cx) (rs : List ResultVar) (c : C) : Ex → St → Prop
  | .exit _, _ => False
  | _, st => resL cx st rs = some c
theorem FC.ofA {cx : Cx} {f : Nat} {fn : Func} {code : Code} {args : List C} {c : C} {rs : List ResultVar} (hN : cx.N = fn.ntmps) (hf : cx.P.funcs[f]? = some fn) (hn : (fn.name == "runtime.NumGoroutine") = false) (hb : fn.body = some code)
    (hrs : fn.results = rs.toArray) (hlen : args.length ≤ fn.ntmps) (hc : noRef 0 c = true) (hT : Tr cx 0 code ⟨A (ini 0 args), []⟩ (EndsR cx rs c)) : FC cx.P cx.gl f args [] c [] := by
  refine FC.of hN hf hn hb hlen ?_
  refine Tr.weaken (fun t => CLe.init args t) (hT.mono fun x st q => ?_)
  have key : resL cx st rs = some c → results cx fn st = some c ∧ ((st.h.take 0 = [] ∧ noRef 0 c = true ∧ ∀ b cells, b < 0 → st.h.at b = some cells → noRefs 0 cells = true) ∨ st.h = []) := fun q => by
    refine ⟨?_, .inl ⟨by simp, hc, fun b cells hb => absurd hb (Nat.not_lt_zero b)⟩⟩
    rw [← q]
    unfold results
    rw [hrs]
    rcases rs with _ | ⟨r, _ | ⟨r2, rs⟩⟩ <;> rfl
  cases x with
  | exit k => exact q
  | normal => exact key q
  | ret => exact key q
theorem A_cons (k : Nat) (c : C) (l : List (Nat × C)) (t : Nat) : A ((k, c) :: l) t = if t = k then c else A l t := rfl
theorem killS_none (env : Nat → C) : killS none env = env := rfl
theorem killS_A (k : Nat) (l : List (Nat × C)) : killS (some k) (A l) = A ((k, (A l k).noR) :: l) := by
  funext t
  simp only [killS, A]
theorem ev_tmp (cx : Cx) (env : Nat → C) (t : Nat) : cx.ev env (.tmp t) = env t := rfl
theorem ev_const (cx : Cx) (env : Nat → C) (v : Value) : cx.ev env (.const v) = .val v := rfl
/-! Tables of contracts. -/
open Classical in
noncomputable def tabOf {α : Type} (enc : α → List C) (out : α → C) (args : List C) : Option C :=
  if h : ∃ a, enc a = args then some (out h.choose) else none
theorem tabOf_enc {α : Type} {enc : α → List C} {out : α → C} (hi : ∀ a b, enc a = enc b → out a = out b) (a : α) : tabOf enc out (enc a) = some (out a) := by
  have h : ∃ b, enc b = enc a := ⟨a, rfl⟩
  unfold tabOf
  rw [dif_pos h]
  exact congrArg some (hi _ _ h.choose_spec)
theorem tabOf_some {α : Type} {enc : α → List C} {out : α → C} {args : List C} {c : C} (h : tabOf enc out args = some c) : ∃ a, enc a = args ∧ out a = c := by
  unfold tabOf at h
  split at h
  · rename_i h2; exact ⟨_, h2.choose_spec, Option.some.inj h⟩
  · cases h
/-- One more function in the table. -/
def ext (pu : Nat → List C → Option C) (f : Nat) (sp : List C → Option C) : Nat → List C → Option C := fun g args => if g = f then sp args else pu g args
theorem ext_hit {pu : Nat → List C → Option C} {f : Nat} {sp : List C → Option C} (args : List C) : ext pu f sp f args = sp args := if_pos rfl
theorem ext_miss {pu : Nat → List C → Option C} {f g : Nat} {sp : List C → Option C} (h : g ≠ f) (args : List C) : ext pu f sp g args = pu g args := if_neg h
theorem CxOK.ext {P : Program} {gl : Nat → C} {pu : Nat → List C → Option C} {hp : Nat → List C → Hp → Option (C × Hp)} {N M : Nat} (hcx : CxOK ⟨P, N, gl, pu, hp, fun _ => false⟩) (hg : ∀ g, noRef 0 (gl g) = true)
    {α : Type} {enc : α → List C} {out : α → C} {f : Nat} (he : ∀ a, noRefs 0 (enc a) = true) (h : ∀ a, FC P gl f (enc a) [] (out a) []) : CxOK ⟨P, M, gl, Sx.ext pu f (tabOf enc out), hp, fun _ => false⟩ := by
  refine ⟨hg, fun g args c hc k => ?_, fun g args k c k' hc => hcx.hp g args k c k' hc⟩
  by_cases hgf : g = f
  · subst hgf
    have hc' : tabOf enc out args = some c := by rw [← hc]; exact (ext_hit args).symm
    obtain ⟨a, rfl, rfl⟩ := tabOf_some hc'
    exact (h a).frame (he a) hg k
  · have hc' : pu g args = some c := by rw [← hc]; exact (ext_miss hgf args).symm
    exact hcx.pu g args c hc' k
theorem CxOK.zero {P : Program} {gl : Nat → C} {N : Nat} (hg : ∀ g, noRef 0 (gl g) = true) : CxOK ⟨P, N, gl, fun _ _ => none, fun _ _ _ => none, fun _ => false⟩ :=
  ⟨hg, fun _ _ _ h _ => (Option.some_ne_none _ h.symm).elim, fun _ _ _ _ _ h => (Option.some_ne_none _ h.symm).elim⟩
theorem CxOK.reN {P : Program} {gl : Nat → C} {pu : Nat → List C → Option C} {hp : Nat → List C → Hp → Option (C × Hp)} {N M : Nat} (hcx : CxOK ⟨P, N, gl, pu, hp, fun _ => false⟩) : CxOK ⟨P, M, gl, pu, hp, fun _ => false⟩ := ⟨hcx.glo, hcx.pu, hcx.hp⟩
end Go.Sx
namespace Go.Sx
open Go.RowKit
def dOK (N : Nat) : Option Nat → Prop
  | some d => d < N
  | none => True
theorem dOK_some (N d : Nat) : dOK N (some d) = (d < N) := rfl
theorem dOK_none (N : Nat) : dOK N none = True := rfl
theorem dOK_iff (N : Nat) (d : Option Nat) : dstOK N d = true ↔ dOK N d := by
  cases d <;> simp [dstOK, dOK]
def mkE : Option Nat → C → List (Nat × C) → List (Nat × C)
  | some d, c, e => (d, c) :: e
  | none, _, e => e
theorem A_mkE (d : Option Nat) (c : C) (e : List (Nat × C)) : put d c (A e) = A (mkE d c e) := by
  cases d <;> rfl
def isA (apps : List Nat) : Option Nat → Bool
  | some t => apps.contains t
  | none => false
theorem isA_nil (d : Option Nat) : isA [] d = false := by cases d <;> rfl
theorem isA_cons (a : Nat) (l : List Nat) (t : Nat) : isA (a :: l) (some t) = (t == a || isA l (some t)) := by
  by_cases hh : t = a <;> simp [isA, hh]
def vp (c : C) : Plan := .val c none
def on (cx : Cx) (e : List (Nat × C)) (x : Operand) : C := (cx.ev (A e) x).noR
def orw (cx : Cx) (e : List (Nat × C)) (x : Operand) : C := cx.ev (A e) x
def onM (cx : Cx) (e : List (Nat × C)) : List Operand → List C
  | [] => []
  | x :: l => on cx e x :: onM cx e l
def onP (cx : Cx) (e : List (Nat × C)) : List (Nat × Operand) → List (Nat × C)
  | [] => []
  | (i, x) :: l => (i, on cx e x) :: onP cx e l
theorem onM_eq (cx : Cx) (e : List (Nat × C)) (l : List Operand) : l.map (cx.evn (A e)) = onM cx e l := by
  induction l with
  | nil => rfl
  | cons x l ih => simp only [List.map_cons, ih, onM]; rfl
theorem onP_eq (cx : Cx) (e : List (Nat × C)) (l : List (Nat × Operand)) : (l.map fun x => (x.1, cx.evn (A e) x.2)) = onP cx e l := by
  induction l with
  | nil => rfl
  | cons x l ih => obtain ⟨i, x⟩ := x; simp only [List.map_cons, ih, onP]; rfl
theorem on_tmp (cx : Cx) (e : List (Nat × C)) (t : Nat) : on cx e (.tmp t) = (A e t).noR := rfl
theorem on_const (cx : Cx) (e : List (Nat × C)) (v : Value) : on cx e (.const v) = .val v := rfl
theorem on_func (cx : Cx) (e : List (Nat × C)) (f : Nat) : on cx e (.func f) = .fn f [] := rfl
theorem orw_tmp (cx : Cx) (e : List (Nat × C)) (t : Nat) : orw cx e (.tmp t) = A e t := rfl
theorem orw_const (cx : Cx) (e : List (Nat × C)) (v : Value) : orw cx e (.const v) = .val v := rfl
theorem tmpq_tmp (t : Nat) : tmp? (.tmp t) = some t := rfl
theorem tmpq_const (v : Value) : tmp? (.const v) = none := rfl
theorem noR_val (v : Value) : (C.val v).noR = .val v := rfl
theorem noR_full (n : Nat) (xs : List C) : (C.sl .full n xs).noR = .sl .full n xs := rfl
theorem noR_sv (b o n : Nat) : (C.sv b o n).noR = .sv b o n := rfl
theorem noR_bp (b o : Nat) : (C.bp b o).noR = .bp b o := rfl
theorem noR_kp (xs : List C) : (C.kp xs).noR = .kp xs := rfl
theorem noR_agg (xs : List C) : (C.agg xs).noR = .agg xs := rfl
theorem noR_tup (xs : List C) : (C.tup xs).noR = .tup xs := rfl
theorem share_val (k : IntKind) (n : Int) : (C.val (.int k n)).share = .val (.int k n) := rfl
theorem share_nil : (C.val (.slice none 0 0)).share = .sl .no 0 [] := rfl
theorem share_agg (xs : List C) : (C.agg xs).share = .agg xs := rfl
def shares : List C → List C
  | [] => []
  | c :: l => c.share :: shares l
theorem shares_eq (l : List C) : l.map C.share = shares l := by
  induction l with
  | nil => rfl
  | cons x l ih => simp only [List.map_cons, ih, shares]
/-- A Boolean that decides the way. -/
def GB (b : Bool) (P Q : Prop) : Prop := (b = true → P) ∧ (b = false → Q)
theorem GB_true (P Q : Prop) : GB true P Q = P := by simp [GB]
theorem GB_false (P Q : Prop) : GB false P Q = Q := by simp [GB]
theorem GB.mk {b : Bool} {P Q : Prop} (h : b = true → P) (k : b = false → Q) : GB b P Q := ⟨h, k⟩
theorem GB.pos {b : Bool} {P Q : Prop} (hb : b = true) (h : P) : GB b P Q := ⟨fun _ => h, fun e => (Bool.noConfusion (hb.symm.trans e))⟩
theorem GB.neg {b : Bool} {P Q : Prop} (hb : b = false) (h : Q) : GB b P Q := ⟨fun e => (Bool.noConfusion (hb.symm.trans e)), fun _ => h⟩
@[congr] theorem GB_congr {b b' : Bool} {P Q : Prop} (h : b = b') : GB b P Q = GB b' P Q := by rw [h]
theorem GB.dec {p : Prop} [Decidable p] {P Q : Prop} (h : p → P) (k : ¬ p → Q) : GB (decide p) P Q := ⟨fun e => h (by simpa using e), fun e => k (by simpa using e)⟩
/-- Both, the second one not looked into. -/
def AN (p q : Prop) : Prop := p ∧ q
@[congr] theorem AN_congr {p p' q : Prop} (h : p = p') : AN p q = AN p' q := by rw [h]
theorem AN_true (q : Prop) : AN True q = q := by simp [AN]
def run (cx : Cx) (apps : List Nat) (dsts : List (Option Nat)) (l : List Oper) (id : Nat) (e : List (Nat × C)) (h : Hp) (fs : List FP) (K : List FP → St → Prop) : Prop :=
  runD cx apps dsts l id ⟨A e, h⟩ fs K
section
variable (cx : Cx) (apps : List Nat) (dsts : List (Option Nat)) (l : List Oper) (id id' : Nat) (d : Option Nat) (e : List (Nat × C)) (h : Hp) (fs : List FP) (K : List FP → St → Prop)
def stV (p : Option Plan) : Prop := act1D cx id d ⟨A e, h⟩ (fun f s => runD cx apps dsts l id' s (f :: fs) K) p
def stR (b : Nat) (o : Option C) : Prop := match o with
  | none => False
  | some c => run cx apps dsts l id' (mkE d c e) h ((1, b) :: fs) K
def stW (k : Option Nat) (b : Nat) (o : Option (List C × C)) : Prop := match o with
  | none => False
  | some r => runD cx apps dsts l id' ⟨put d r.2 (killS k (A e)), h.set b (some r.1)⟩ ((2, b) :: fs) K
def stX (b off : Nat) (o : Option (List C)) : Prop := match o with
  | none => False
  | some cells => match cells[off]? with
    | none => False
    | some x => run cx apps dsts l id' (mkE d x e) (h.set b (some (cells.set off x.noR))) ((3, b) :: fs) K
def stC (o : Option (C × Hp)) : Prop := match o with
  | none => False
  | some r => run cx apps dsts l id' (mkE d r.1 e) r.2 ((4, 0) :: fs) K
def stN (cells : List C) (g : Nat → C) (o : Option (Option (List C))) : Prop := match o with
  | some none => run cx apps dsts l id' (mkE d (g id) e) (h.set id (some cells)) ((2, id) :: fs) K
  | _ => False
theorem stV_vp (c : C) : stV cx apps dsts l id id' d e h fs K (some (vp c)) = run cx apps dsts l id' (mkE d c e) h ((0, 0) :: fs) K := by
  show runD _ _ _ _ _ ⟨put d c (killS none (A e)), h⟩ _ _ = _
  rw [killS_none, A_mkE]; rfl
theorem stV_val0 (c : C) : stV cx apps dsts l id id' d e h fs K (some (.val c none)) = run cx apps dsts l id' (mkE d c e) h ((0, 0) :: fs) K := stV_vp ..
theorem stV_valk (c : C) (k : Nat) : stV cx apps dsts l id id' d e h fs K (some (.val c (some k))) = run cx apps dsts l id' (mkE d c ((k, (A e k).noR) :: e)) h ((0, 0) :: fs) K := by
  show runD _ _ _ _ _ ⟨put d c (killS (some k) (A e)), h⟩ _ _ = _
  rw [killS_A, A_mkE]; rfl
theorem stV_rd (b : Nat) (f : List C → Option C) : stV cx apps dsts l id id' d e h fs K (some (.rd b f)) = stR cx apps dsts l id' d e h fs K b ((h.at b).bind f) := by
  unfold stV stR act1D
  simp only [actH]
  cases (h.at b).bind f with
  | none => rfl
  | some c =>
    simp only [Option.map_some, killS_none, A_mkE]; rfl
theorem stV_wr (b : Nat) (f : List C → Option (List C × C)) (k : Option Nat) : stV cx apps dsts l id id' d e h fs K (some (.wr b f k)) = stW cx apps dsts l id' d e h fs K k b ((h.at b).bind f) := by
  unfold stV stW act1D
  simp only [actH]
  cases (h.at b).bind f with
  | none => rfl
  | some c => simp only [Option.map_some]; rfl
theorem stV_xr (b off : Nat) : stV cx apps dsts l id id' d e h fs K (some (.xr b off)) = stX cx apps dsts l id' d e h fs K b off (h.at b) := by
  unfold stV stX act1D
  simp only [actH]
  cases h.at b with
  | none => rfl
  | some cells =>
    simp only [Option.bind_some]
    cases cells[off]? with
    | none => rfl
    | some x => simp only [Option.map_some, killS_none, A_mkE]; rfl
theorem stV_new (cells : List C) (g : Nat → C) : stV cx apps dsts l id id' d e h fs K (some (.new cells g)) = stN cx apps dsts l id id' d e h fs K cells g (h[id]?) := by
  unfold stV stN act1D
  simp only [actH]
  cases h[id]? with
  | none => rfl
  | some o => cases o with
    | none => simp only [killS_none, A_mkE]; rfl
    | some o => rfl
def stA (b : Option (Nat × Nat)) (s m : Nat) (o : Option (List C)) : Prop := match o with
  | none => False
  | some cs => match b with
    | none => run cx apps dsts l id' (mkE d (.gv h.length m s) e) (h ++ [some (cs.map C.noR)]) ((4, 0) :: fs) K
    | some (b, n) => match h.at b with
      | none => False
      | some cells =>
        if (n + m) * s ≤ cells.length ∧ (n ≠ 0 ∨ m = 0) then run cx apps dsts l id' (mkE d (.gv b (n + m) s) e) (h.set b (some (splice cells (n * s) (cs.map C.noR)))) ((4, 0) :: fs) K
        else if n * s = cells.length then run cx apps dsts l id' (mkE d (.gv h.length (n + m) s) e) (h.set b (some deadC) ++ [some ((cells ++ cs).map C.noR)]) ((4, 0) :: fs) K else False
theorem stR_some (b : Nat) (c : C) : stR cx apps dsts l id' d e h fs K b (some c) = run cx apps dsts l id' (mkE d c e) h ((1, b) :: fs) K := rfl
theorem stW_some0 (b : Nat) (cells : List C) (c : C) : stW cx apps dsts l id' d e h fs K none b (some (cells, c)) = run cx apps dsts l id' (mkE d c e) (h.set b (some cells)) ((2, b) :: fs) K := by
  show runD _ _ _ _ _ ⟨put d c (killS none (A e)), _⟩ _ _ = _
  rw [killS_none, A_mkE]; rfl
theorem stW_somek (k b : Nat) (cells : List C) (c : C) : stW cx apps dsts l id' d e h fs K (some k) b (some (cells, c)) = run cx apps dsts l id' (mkE d c ((k, (A e k).noR) :: e)) (h.set b (some cells)) ((2, b) :: fs) K := by
  show runD _ _ _ _ _ ⟨put d c (killS (some k) (A e)), _⟩ _ _ = _
  rw [killS_A, A_mkE]; rfl
theorem stN_some (cells : List C) (g : Nat → C) : stN cx apps dsts l id id' d e h fs K cells g (some none) = run cx apps dsts l id' (mkE d (g id) e) (h.set id (some cells)) ((2, id) :: fs) K := rfl
theorem run_nil : run cx apps dsts [] id e h fs K = K fs ⟨A e, h⟩ := rfl
end
@[congr] theorem stV_congr {cx : Cx} {apps : List Nat} {dsts : List (Option Nat)} {l : List Oper} {id id' : Nat} {d : Option Nat} {e : List (Nat × C)} {h : Hp} {fs : List FP} {K : List FP → St → Prop} {p p' : Option Plan} (hp : p = p') :
    stV cx apps dsts l id id' d e h fs K p = stV cx apps dsts l id id' d e h fs K p' := by rw [hp]
@[congr] theorem stR_congr {cx : Cx} {apps : List Nat} {dsts : List (Option Nat)} {l : List Oper} {id' : Nat} {d : Option Nat} {e : List (Nat × C)} {h : Hp} {fs : List FP} {K : List FP → St → Prop} {b : Nat} {p p' : Option C} (hp : p = p') :
    stR cx apps dsts l id' d e h fs K b p = stR cx apps dsts l id' d e h fs K b p' := by rw [hp]
@[congr] theorem stW_congr {cx : Cx} {apps : List Nat} {dsts : List (Option Nat)} {l : List Oper} {id' : Nat} {d : Option Nat} {e : List (Nat × C)} {h : Hp} {fs : List FP} {K : List FP → St → Prop} {k : Option Nat} {b : Nat} {p p' : Option (List C × C)} (hp : p = p') :
    stW cx apps dsts l id' d e h fs K k b p = stW cx apps dsts l id' d e h fs K k b p' := by rw [hp]
@[congr] theorem stX_congr {cx : Cx} {apps : List Nat} {dsts : List (Option Nat)} {l : List Oper} {id' : Nat} {d : Option Nat} {e : List (Nat × C)} {h : Hp} {fs : List FP} {K : List FP → St → Prop} {b off : Nat} {p p' : Option (List C)} (hp : p = p') :
    stX cx apps dsts l id' d e h fs K b off p = stX cx apps dsts l id' d e h fs K b off p' := by rw [hp]
@[congr] theorem stC_congr {cx : Cx} {apps : List Nat} {dsts : List (Option Nat)} {l : List Oper} {id' : Nat} {d : Option Nat} {e : List (Nat × C)} {fs : List FP} {K : List FP → St → Prop} {p p' : Option (C × Hp)} (hp : p = p') :
    stC cx apps dsts l id' d e fs K p = stC cx apps dsts l id' d e fs K p' := by rw [hp]
@[congr] theorem stN_congr {cx : Cx} {apps : List Nat} {dsts : List (Option Nat)} {l : List Oper} {id id' : Nat} {d : Option Nat} {e : List (Nat × C)} {h : Hp} {fs : List FP} {K : List FP → St → Prop} {cells : List C} {g : Nat → C} {p p' : Option (Option (List C))} (hp : p = p') :
    stN cx apps dsts l id id' d e h fs K cells g p = stN cx apps dsts l id id' d e h fs K cells g p' := by rw [hp]
@[congr] theorem run_congr {cx : Cx} {apps : List Nat} {dsts : List (Option Nat)} {l : List Oper} {id id' : Nat} {e : List (Nat × C)} {h h' : Hp} {fs : List FP} {K : List FP → St → Prop} (hi : id = id') (hh : h = h') :
    run cx apps dsts l id e h fs K = run cx apps dsts l id' e h' fs K := by rw [hh, hi]
theorem run_mkS (cx : Cx) (apps : List Nat) (dsts : List (Option Nat)) (l : List Oper) (id d : Nat) (c : C) (e : List (Nat × C)) (h : Hp) (fs : List FP) (K : List FP → St → Prop) :
    run cx apps dsts l id (mkE (some d) c e) h fs K = run cx apps dsts l id ((d, c) :: e) h fs K := rfl
theorem run_mkN (cx : Cx) (apps : List Nat) (dsts : List (Option Nat)) (l : List Oper) (id : Nat) (c : C) (e : List (Nat × C)) (h : Hp) (fs : List FP) (K : List FP → St → Prop) :
    run cx apps dsts l id (mkE none c e) h fs K = run cx apps dsts l id e h fs K := rfl
end Go.Sx
namespace Go.Sx
open Go.RowKit
theorem runE_of_run {cx : Cx} {apps : List Nat} {dsts : List (Option Nat)} {K : St → Prop} : ∀ (l : List Oper) (id : Nat) (st : St) (fs : List FP), runD cx apps dsts l id st fs (fun _ s => K s) → runE cx apps dsts l id st K
  | [], _, _, _, h => h
  | o :: l, id, st, fs, h => by
    simp only [runD, runE] at h ⊢
    refine ⟨h.1, ?_⟩
    have h2 := h.2
    cases hw : wantedA dsts o.guard st.env with
    | none => rw [hw] at h2; exact h2
    | some b =>
      rw [hw] at h2
      cases b with
      | false => exact runE_of_run l _ _ _ h2
      | true =>
        simp only [act1, act1D] at h2 ⊢
        generalize splanA cx apps o st.env = q at h2 ⊢
        cases q with
        | none => exact h2
        | some p =>
          simp only [] at h2 ⊢
          generalize actH cx id p st.h = r at h2 ⊢
          cases r with
          | none => exact h2
          | some r => exact runE_of_run l _ _ _ h2
section
variable {cx : Cx} {n : Nat} {Q : Ex → St → Prop} {e : List (Nat × C)} {h : Hp}
/-- A region, by its list of operations; apps, dsts, z: told by whoever prints the proof. -/
theorem Tr.rg (hcx : CxOK cx) {id : Nat} {l : List Oper} (apps : List Nat) (dsts : List (Option Nat)) (z : Hp) (h1 : l.filterMap appOf = apps) (h2 : l.map (·.dst) = dsts) (h3 : nones l = z)
    (H : run cx apps dsts l h.length e (h ++ z) [] (fun _ s => Q .normal s)) : Tr cx n (.region id l.toArray false) ⟨A e, h⟩ Q := by
  subst h1 h2 h3
  exact Tr.reg hcx (runE_of_run _ _ _ _ H)
theorem Tr.rgD (hcx : CxOK cx) (hm : cx.P.follows .mixedOrders = true) {id : Nat} {l : List Oper} (apps : List Nat) (dsts : List (Option Nat)) (z : Hp) (h1 : l.filterMap appOf = apps) (h2 : l.map (·.dst) = dsts) (h3 : nones l = z)
    (hs : regStatic l.toArray = true)
    (H : run cx apps dsts l h.length e (h ++ z) [] (fun fs s => confsOK l.toArray fs.reverse = true ∧ Q .normal s)) : Tr cx n (.region id l.toArray true) ⟨A e, h⟩ Q := by
  subst h1 h2 h3
  exact Tr.regD hcx hm hs H
end
section
variable (cx : Cx) (apps : List Nat) (dsts : List (Option Nat)) (l : List Oper) (id id' : Nat) (d : Option Nat) (e : List (Nat × C)) (h : Hp) (fs : List FP) (K : List FP → St → Prop) (ty : TypeId) (pos : String) (aft : Array Edge)
theorem run_gen (op : Op) (p : Option Plan) (hp : splanA cx apps ⟨d, op, ty, pos, aft, none⟩ (A e) = p) (hm : (if makes ⟨d, op, ty, pos, aft, none⟩ then id + 1 else id) = id') :
    run cx apps dsts (⟨d, op, ty, pos, aft, none⟩ :: l) id e h fs K = AN (dOK cx.N d) (stV cx apps dsts l id id' d e h fs K p) := by
  unfold run AN
  rw [runD]
  simp only [wantedA]
  rw [hp, hm, dOK_iff]
  rfl
def stG (op : Op) (o : Option Bool) : Prop := match o with
  | none => False
  | some b => (b = true → run cx apps dsts (⟨d, op, ty, pos, aft, none⟩ :: l) id e h fs K) ∧
      (b = false → AN (dOK cx.N d) (run cx apps dsts l (if makes ⟨d, op, ty, pos, aft, none⟩ then id + 1 else id) (mkE d (.val undef) e) h ((0, 0) :: fs) K))
theorem run_guard (op : Op) (g : Nat × Bool) : run cx apps dsts (⟨d, op, ty, pos, aft, some g⟩ :: l) id e h fs K = stG cx apps dsts l id d e h fs K ty pos aft op (wantedA dsts (some g) (A e)) := by
  unfold run stG
  rw [runD]
  simp only []
  have hsp : splanA cx apps ⟨d, op, ty, pos, aft, some g⟩ (A e) = splanA cx apps ⟨d, op, ty, pos, aft, none⟩ (A e) := by
    rw [splanA.eq_def, splanA.eq_def]
    cases op with
    | move x => cases x <;> rfl
    | _ => rfl
  have hmk : makes ⟨d, op, ty, pos, aft, some g⟩ = makes ⟨d, op, ty, pos, aft, none⟩ := rfl
  cases hw : wantedA dsts (some g) (A e) with
  | none => simp
  | some b =>
    cases b with
    | true =>
      simp only [Bool.true_eq_false, false_implies, and_true, true_implies]
      rw [run, runD, hsp, hmk]
      simp only [wantedA]
    | false =>
      simp only [Bool.false_eq_true, false_implies, true_and, true_implies]
      rw [AN, dOK_iff, A_mkE]
      rfl
/-- The next box after an operation that was left out. -/
def bump (op : Op) (id : Nat) : Nat := match op with
  | .alloc _ | .box _ _ | .makeSlice _ _ _ => id + 1
  | _ => id
theorem bump_eq (op : Op) : (if makes ⟨d, op, ty, pos, aft, none⟩ then id + 1 else id) = bump op id := by cases op <;> rfl
theorem stG_some (op : Op) (b : Bool) : stG cx apps dsts l id d e h fs K ty pos aft op (some b) = GB b (run cx apps dsts (⟨d, op, ty, pos, aft, none⟩ :: l) id e h fs K)
    (AN (dOK cx.N d) (run cx apps dsts l (bump op id) (mkE d (.val undef) e) h ((0, 0) :: fs) K)) := by
  rw [← bump_eq (d := d) (ty := ty) (pos := pos) (aft := aft)]; rfl
theorem bump_move (x : Operand) (id : Nat) : bump (.move x) id = id := rfl
theorem bump_pick (c a b : Operand) (id : Nat) : bump (.pick c a b) id = id := rfl
theorem bump_load (t : TypeId) (a : Operand) (id : Nat) : bump (.load t a) id = id := rfl
theorem bump_binOp (o : BinOp) (t : TypeId) (x y : Operand) (s : TypeId) (id : Nat) : bump (.binOp o t x y s) id = id := rfl
theorem bump_unOp (o : UnOp) (t : TypeId) (x : Operand) (id : Nat) : bump (.unOp o t x) id = id := rfl
theorem bump_fieldAddr (t : TypeId) (x : Operand) (f : Nat) (id : Nat) : bump (.fieldAddr t x f) id = id := rfl
theorem bump_indexAddr (t : TypeId) (x i : Operand) (id : Nat) : bump (.indexAddr t x i) id = id := rfl
theorem bump_call (c : Call) (id : Nat) : bump (.call c) id = id := rfl
/-- Is what is made here to be written later? -/
def isG (cx : Cx) (d : Option Nat) : Bool := d.any cx.gr
def gif (b : Bool) (p q : Option Plan) : Option Plan := if b = true then p else q
@[congr] theorem gif_congr {b b' : Bool} {p q : Option Plan} (h : b = b') : gif b p q = gif b' p q := by rw [h]
def sliceP (P : Program) (t : TypeId) (c : C) (lo hi mx : Option C) : Option Plan := match c, lo, mx with
  | .gv b n s, none, none => sliceG P t b n s hi
  | c, _, _ => slicePlan P t c.asSv lo hi mx
def pickP (c a b : C) : Option Plan := match c with
  | .val (.bool true) => some (vp a)
  | .val (.bool false) => some (vp b)
  | _ => none
def allocP (t : Option TD) : Option Plan := match t with
  | some d => if d.zero.all (·.oneCell') then some (.new (d.zero.map .val) fun id => .bp id 0) else none
  | none => none
def boxP (x : C) : Option Plan := x.cells?.map fun cs => .new cs fun id => .bp id 0
def buildP (P : Program) (t : Option TD) (parts : List (Nat × C)) : Option Plan := match t with
  | some d => if d.zero.all (·.oneCell') = false then none else ((places P d.u).bind fun pl => lay pl (d.zero.map .val) parts).map fun cs => vp (.agg cs)
  | none => none
def buildSliceP (P : Program) (g : Bool) (t : Option TD) (n : Nat) (parts : List (Nat × C)) : Option Plan := match t with
  | some d => (match d.u with
    | .slice e => (match td P e with
      | some de => if n * de.size ≤ 65536 ∧ n ≤ 65536 ∧ de.zero.length = de.size ∧ de.zero.all (·.oneCell') = true then
          (lay (fun i => some (i * de.size, de.size)) (repZero de.zero n) parts).map fun cs => if g = true then .ap none de.size n fun _ => some cs else vp (.sl .full n cs) else none
      | none => none)
    | _ => none)
  | none => none
def extractP (x : C) (i : Nat) : Option Plan := match x with
  | .tup xs => (xs[i]?).map fun c => vp c.noR
  | _ => none
def callQ (cx : Cx) (g : Nat) (as : List C) (o : Option C) : Option Plan := match o with
  | some c => some (vp c)
  | none => match refBox as with
    | some b => if (cx.hp g as []).isSome then some (.call g as) else some (.rd b (rdPu cx g as b))
    | none => some (.call g as)
def callP (cx : Cx) (f : C) (args : List C) : Option Plan := match f with
  | .fn g caps => callQ cx g (shares args ++ caps) (cx.pu g (shares args ++ caps))
  | _ => none
def mvP (b : Bool) (c : C) (p : Nat) : Option Plan := match b with
  | true => some (.val c (some p))
  | false => some (vp c.noR)
def staP (P : Program) (t : Option TD) (x : C) : Option Plan := match t with
  | some d => (match d.u with
    | .array n e => (match td P e, x with
      | some _, .sv b off m => if n ≤ m ∧ n ≠ 0 then some (vp (.bp b off)) else none
      | some _, .gv b m _ => if n ≤ m ∧ n ≠ 0 then some (vp (.bp b 0)) else none
      | some de, c => (match c.sl? with
        | some (m, xs) => if n ≤ m ∧ xs ≠ [] ∧ xs.length = m * de.size then some (vp (.kp xs)) else none
        | none => none)
      | _, _ => none)
    | _ => none)
  | none => none
def mksP (P : Program) (t : Option TD) (l c : C) : Option Plan := match t, l.int?, c.int? with
  | some d, some (_, n), some (_, m) => (match d.u with
    | .slice e => (match td P e with
      | some de => if 0 ≤ n ∧ n = m ∧ de.bytes * n ≤ 140737488355328 ∧ n ≤ 9223372036854775807 ∧ de.zero.length = de.size ∧ de.zero.all (·.oneCell') = true then some (.new (repZero de.zero n.toNat) fun id => .sv id 0 n.toNat) else none
      | none => none)
    | _ => none)
  | _, _, _ => none
theorem run_mvt (p : Nat) : run cx apps dsts (⟨d, .move (.tmp p), ty, pos, aft, none⟩ :: l) id e h fs K = AN (dOK cx.N d) (stV cx apps dsts l id id d e h fs K (mvP (isA apps d || isA apps (d.map (· + 1000000))) (A e p) p)) :=
  run_gen cx apps dsts l id id d e h fs K ty pos aft (.move (.tmp p)) (mvP (isA apps d || isA apps (d.map (· + 1000000))) (A e p) p) (by
    rw [splanA.eq_def]; simp only []
    cases d with
    | none => rfl
    | some t =>
      simp only [isA, mvP, vp, Plan.pure, Option.map_some, List.contains_eq_mem]
      by_cases hb : t ∈ apps <;> by_cases hc : t + 1000000 ∈ apps <;> simp [hb, hc]) rfl
theorem run_mvc (v : Value) : run cx apps dsts (⟨d, .move (.const v), ty, pos, aft, none⟩ :: l) id e h fs K = AN (dOK cx.N d) (stV cx apps dsts l id id d e h fs K (some (vp (.val v)))) :=
  run_gen cx apps dsts l id id d e h fs K ty pos aft (.move (.const v)) (some (vp (.val v))) (by first | rfl | (cases d <;> rfl)) rfl
theorem run_asg (x : Operand) : run cx apps dsts (⟨d, .assign x, ty, pos, aft, none⟩ :: l) id e h fs K = AN (dOK cx.N d) (stV cx apps dsts l id id d e h fs K (some (.val (orw cx e x) (tmp? x)))) :=
  run_gen cx apps dsts l id id d e h fs K ty pos aft (.assign x) (some (.val (orw cx e x) (tmp? x))) (by first | rfl | (cases d <;> rfl)) rfl
theorem run_pick (c a b : Operand) : run cx apps dsts (⟨d, .pick c a b, ty, pos, aft, none⟩ :: l) id e h fs K = AN (dOK cx.N d) (stV cx apps dsts l id id d e h fs K (pickP (on cx e c) (on cx e a) (on cx e b))) :=
  run_gen cx apps dsts l id id d e h fs K ty pos aft (.pick c a b) (pickP (on cx e c) (on cx e a) (on cx e b)) (by first | rfl | (cases d <;> rfl)) rfl
theorem run_alloc (t : TypeId) : run cx apps dsts (⟨d, .alloc t, ty, pos, aft, none⟩ :: l) id e h fs K = AN (dOK cx.N d) (stV cx apps dsts l id (id + 1) d e h fs K (allocP (td cx.P t))) :=
  run_gen cx apps dsts l id (id + 1) d e h fs K ty pos aft (.alloc t) (allocP (td cx.P t)) (by first | rfl | (cases d <;> rfl)) rfl
theorem run_box (t : TypeId) (x : Operand) : run cx apps dsts (⟨d, .box t x, ty, pos, aft, none⟩ :: l) id e h fs K = AN (dOK cx.N d) (stV cx apps dsts l id (id + 1) d e h fs K (boxP (on cx e x))) :=
  run_gen cx apps dsts l id (id + 1) d e h fs K ty pos aft (.box t x) (boxP (on cx e x)) (by first | rfl | (cases d <;> rfl)) rfl
theorem run_build (t : TypeId) (ps : List (Nat × Operand)) : run cx apps dsts (⟨d, .build t ps.toArray, ty, pos, aft, none⟩ :: l) id e h fs K = AN (dOK cx.N d) (stV cx apps dsts l id id d e h fs K (buildP cx.P (td cx.P t) (onP cx e ps))) :=
  run_gen cx apps dsts l id id d e h fs K ty pos aft (.build t ps.toArray) (buildP cx.P (td cx.P t) (onP cx e ps)) (by rw [← onP_eq]; rfl) rfl
theorem run_buildS (t : TypeId) (m : Nat) (ps : List (Nat × Operand)) : run cx apps dsts (⟨d, .buildSlice t m ps.toArray, ty, pos, aft, none⟩ :: l) id e h fs K = AN (dOK cx.N d) (stV cx apps dsts l id id d e h fs K (buildSliceP cx.P (isG cx d) (td cx.P t) m (onP cx e ps))) :=
  run_gen cx apps dsts l id id d e h fs K ty pos aft (.buildSlice t m ps.toArray) (buildSliceP cx.P (isG cx d) (td cx.P t) m (onP cx e ps)) (by rw [← onP_eq]; rfl) rfl
theorem run_load (t : TypeId) (x : Operand) : run cx apps dsts (⟨d, .load t x, ty, pos, aft, none⟩ :: l) id e h fs K = AN (dOK cx.N d) (stV cx apps dsts l id id d e h fs K (loadPlan cx.P (isA apps d) t (on cx e x))) :=
  run_gen cx apps dsts l id id d e h fs K ty pos aft (.load t x) (loadPlan cx.P (isA apps d) t (on cx e x)) (by first | rfl | (cases d <;> rfl)) rfl
theorem run_store (t : TypeId) (x y : Operand) : run cx apps dsts (⟨d, .store t x y, ty, pos, aft, none⟩ :: l) id e h fs K = AN (dOK cx.N d) (stV cx apps dsts l id id d e h fs K (storePlan cx.P t (on cx e x) (orw cx e y) (tmp? y))) :=
  run_gen cx apps dsts l id id d e h fs K ty pos aft (.store t x y) (storePlan cx.P t (on cx e x) (orw cx e y) (tmp? y)) (by first | rfl | (cases d <;> rfl)) rfl
theorem run_bin (o : BinOp) (t t2 : TypeId) (x y : Operand) : run cx apps dsts (⟨d, .binOp o t x y t2, ty, pos, aft, none⟩ :: l) id e h fs K = AN (dOK cx.N d) (stV cx apps dsts l id id d e h fs K (binPlan cx.P o t (on cx e x) (on cx e y))) :=
  run_gen cx apps dsts l id id d e h fs K ty pos aft (.binOp o t x y t2) (binPlan cx.P o t (on cx e x) (on cx e y)) (by first | rfl | (cases d <;> rfl)) rfl
theorem run_un (o : UnOp) (t : TypeId) (x : Operand) : run cx apps dsts (⟨d, .unOp o t x, ty, pos, aft, none⟩ :: l) id e h fs K = AN (dOK cx.N d) (stV cx apps dsts l id id d e h fs K (unPlan o (on cx e x))) :=
  run_gen cx apps dsts l id id d e h fs K ty pos aft (.unOp o t x) (unPlan o (on cx e x)) (by first | rfl | (cases d <;> rfl)) rfl
theorem run_mks (t : TypeId) (x y : Operand) : run cx apps dsts (⟨d, .makeSlice t x y, ty, pos, aft, none⟩ :: l) id e h fs K = AN (dOK cx.N d) (stV cx apps dsts l id (id + 1) d e h fs K (mksP cx.P (td cx.P t) (on cx e x) (on cx e y))) :=
  run_gen cx apps dsts l id (id + 1) d e h fs K ty pos aft (.makeSlice t x y) (mksP cx.P (td cx.P t) (on cx e x) (on cx e y)) (by first | rfl | (cases d <;> rfl)) rfl
theorem run_slice (t : TypeId) (x : Operand) (lo hi mx : Option Operand) : run cx apps dsts (⟨d, .slice t x lo hi mx, ty, pos, aft, none⟩ :: l) id e h fs K = AN (dOK cx.N d) (stV cx apps dsts l id id d e h fs K (sliceP cx.P t (on cx e x) (lo.map (on cx e)) (hi.map (on cx e)) (mx.map (on cx e)))) :=
  run_gen cx apps dsts l id id d e h fs K ty pos aft (.slice t x lo hi mx) (sliceP cx.P t (on cx e x) (lo.map (on cx e)) (hi.map (on cx e)) (mx.map (on cx e))) (by rw [splanA.eq_def]; simp only []; rw [splan.eq_def]; simp only []; unfold sliceP; change (match on cx e x, lo, mx with | .gv b n s, none, none => sliceG cx.P t b n s (hi.map (on cx e)) | c, _, _ => slicePlan cx.P t c.asSv (lo.map (on cx e)) (hi.map (on cx e)) (mx.map (on cx e))) = _; cases on cx e x <;> cases lo <;> cases mx <;> rfl) rfl
theorem run_fa (t : TypeId) (x : Operand) (f : Nat) : run cx apps dsts (⟨d, .fieldAddr t x f, ty, pos, aft, none⟩ :: l) id e h fs K = AN (dOK cx.N d) (stV cx apps dsts l id id d e h fs K (fieldAddrPlan cx.P t (on cx e x) f)) :=
  run_gen cx apps dsts l id id d e h fs K ty pos aft (.fieldAddr t x f) (fieldAddrPlan cx.P t (on cx e x) f) (by first | rfl | (cases d <;> rfl)) rfl
theorem run_ixa (t : TypeId) (x i : Operand) : run cx apps dsts (⟨d, .indexAddr t x i, ty, pos, aft, none⟩ :: l) id e h fs K = AN (dOK cx.N d) (stV cx apps dsts l id id d e h fs K (indexAddrPlan cx.P t (on cx e x).asSv (on cx e i))) :=
  run_gen cx apps dsts l id id d e h fs K ty pos aft (.indexAddr t x i) (indexAddrPlan cx.P t (on cx e x).asSv (on cx e i)) (by first | rfl | (cases d <;> rfl)) rfl
theorem run_extr (x : Operand) (i : Nat) : run cx apps dsts (⟨d, .extract x i, ty, pos, aft, none⟩ :: l) id e h fs K = AN (dOK cx.N d) (stV cx apps dsts l id id d e h fs K (extractP (on cx e x) i)) :=
  run_gen cx apps dsts l id id d e h fs K ty pos aft (.extract x i) (extractP (on cx e x) i) (by first | rfl | (cases d <;> rfl)) rfl
theorem run_len (t : TypeId) (x : Operand) : run cx apps dsts (⟨d, .call ⟨.builtin .len, #[x], #[t]⟩, ty, pos, aft, none⟩ :: l) id e h fs K = AN (dOK cx.N d) (stV cx apps dsts l id id d e h fs K (lenPlan cx.P t (on cx e x).asSv)) :=
  run_gen cx apps dsts l id id d e h fs K ty pos aft (.call ⟨.builtin .len, #[x], #[t]⟩) (lenPlan cx.P t (on cx e x).asSv) (by first | rfl | (cases d <;> rfl)) rfl
theorem run_app (t t2 : TypeId) (x y : Operand) : run cx apps dsts (⟨d, .call ⟨.builtin .append, #[x, y], #[t, t2]⟩, ty, pos, aft, none⟩ :: l) id e h fs K = AN (dOK cx.N d) (stV cx apps dsts l id id d e h fs K (gif (isG cx d) (growPlan cx.P t t2 (on cx e x) (on cx e y).asSv) (appendPlan cx.P t t2 (orw cx e x) (on cx e y).asSv (tmp? x)))) :=
  run_gen cx apps dsts l id id d e h fs K ty pos aft (.call ⟨.builtin .append, #[x, y], #[t, t2]⟩) (gif (isG cx d) (growPlan cx.P t t2 (on cx e x) (on cx e y).asSv) (appendPlan cx.P t t2 (orw cx e x) (on cx e y).asSv (tmp? x))) (by first | rfl | (cases d <;> rfl)) rfl
theorem run_min (ts : Array TypeId) (x y : Operand) : run cx apps dsts (⟨d, .call ⟨.builtin .min, #[x, y], ts⟩, ty, pos, aft, none⟩ :: l) id e h fs K = AN (dOK cx.N d) (stV cx apps dsts l id id d e h fs K (minMax false (on cx e x) (on cx e y))) :=
  run_gen cx apps dsts l id id d e h fs K ty pos aft (.call ⟨.builtin .min, #[x, y], ts⟩) (minMax false (on cx e x) (on cx e y)) (by first | rfl | (cases d <;> rfl)) rfl
theorem run_call (ts : Array TypeId) (f : Operand) (xs : List Operand) : run cx apps dsts (⟨d, .call ⟨.value f, xs.toArray, ts⟩, ty, pos, aft, none⟩ :: l) id e h fs K = AN (dOK cx.N d) (stV cx apps dsts l id id d e h fs K (callP cx (on cx e f) (onM cx e xs))) :=
  run_gen cx apps dsts l id id d e h fs K ty pos aft (.call ⟨.value f, xs.toArray, ts⟩) (callP cx (on cx e f) (onM cx e xs)) (by rw [splanA.eq_def]; simp only []; rw [splan.eq_def]; simp only []; rw [onM_eq]; show callPlan cx (on cx e f) _ = _; unfold callPlan callP; cases on cx e f <;> first | rfl | (simp only [shares_eq]; rfl)) rfl
end
end Go.Sx
