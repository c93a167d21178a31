/-
   And what follows.
-/
import Derived.Laws.IdiomStrings
import Derived.Test.YtmoaeemdlompaaaDoorPad
set_option linter.unusedSimpArgs false
set_option linter.unusedVariables false
namespace Go.Sx
open Go.RowKit
section
variable {cx : Cx} {G : Gh} {h : Hp} {w : World} {st : St} {a : Act} {o : Oper} {P : Program}
theorem fill_fold (off : Nat) : ∀ (l : List Value) (k : Nat) (cs : Array Value), off + k + l.length ≤ cs.size →
    ((l.zipIdx k).foldl (fun cs (x : Value × Nat) => cs.setIfInBounds (off + x.2) x.1) cs).toList = cs.toList.take (off + k) ++ l ++ cs.toList.drop (off + k + l.length)
  | [], k, cs, _ => by simp
  | v :: l, k, cs, hl => by
    simp only [List.zipIdx_cons, List.foldl_cons]
    rw [fill_fold off l (k + 1) (cs.setIfInBounds (off + k) v) (by simp at hl ⊢; omega)]
    have e := list_seg_step cs.toList (off + k) v l (by simp at hl ⊢; omega)
    simpa [Array.toList_setIfInBounds, Nat.add_assoc, Nat.add_comm 1] using e
theorem RepL.splice {xs ys : List C} {vs us : List Value} (hx : RepL G xs vs) (hy : RepL G ys us) (off : Nat) : RepL G (splice xs off ys) (vs.take off ++ us ++ vs.drop (off + us.length)) := by
  unfold Sx.splice
  rw [hy.length]
  exact ((hx.take off).append hy).append (hx.drop _)
theorem lay_fill {pl : Nat → Option (Nat × Nat)} : ∀ (parts : List (Nat × C)) (vals : List (Nat × Value)) (cells out : List C) (cs : Array Value),
    parts.map (·.1) = vals.map (·.1) → (∀ (i : Nat) (c : C) (v : Value), (parts.map (·.2))[i]? = some c → (vals.map (·.2))[i]? = some v → Rep G c v) →
    RepL G cells cs.toList → (∀ u ∈ cs.toList, u.oneCell' = true) → lay pl cells parts = some out →
    ∃ cs', Instr.fill pl cs vals = some cs' ∧ RepL G out cs'.toList ∧ ∀ u ∈ cs'.toList, u.oneCell' = true
  | [], vals, cells, out, cs, hm, _, hr, h1, h => by
    cases vals with
    | nil => simp only [lay, Option.some.injEq] at h; subst h; exact ⟨cs, rfl, hr, h1⟩
    | cons => simp at hm
  | (i, c) :: parts, vals, cells, out, cs, hm, hv, hr, h1, h => by
    cases vals with
    | nil => simp at hm
    | cons x vals =>
      obtain ⟨j, v⟩ := x
      simp only [List.map_cons, List.cons.injEq] at hm
      obtain ⟨rfl, hm⟩ := hm
      simp only [lay] at h
      split at h
      · rename_i off size ccs hpl hcs
        split at h
        · rename_i hb
          obtain ⟨q1, q2⟩ := cells?_rep hcs (hv 0 c v (by simp) (by simp))
          have hsz : v.cells.size = size := by rw [← hb.1, q1.length]; simp
          have hcl : cells.length = cs.size := by rw [hr.length]; simp
          have hfit : off + v.cells.size ≤ cs.size := by rw [hsz]; omega
          have hfold := fill_fold off v.cells.toList 0 cs (by simpa using hfit)
          simp only [Nat.add_zero] at hfold
          simp only [Instr.fill, hpl]
          rw [if_neg (by simp [hsz]; omega)]
          have hfe : (v.cells.zipIdx.foldl (fun cs (x : Value × Nat) => cs.setIfInBounds (off + x.2) x.1) cs) = (v.cells.toList.zipIdx.foldl (fun cs (x : Value × Nat) => cs.setIfInBounds (off + x.2) x.1) cs) := by
            rw [← Array.foldl_toList]; simp
          refine lay_fill parts vals _ out _ hm (fun k c' v' hc' hv' => hv (k + 1) c' v' (by simpa using hc') (by simpa using hv')) ?_ ?_ h
          · rw [hfe, hfold]
            exact hr.splice q1 off
          · intro u hu
            rw [hfe, hfold] at hu
            rcases List.mem_append.1 hu with hu | hu
            · rcases List.mem_append.1 hu with hu | hu
              · exact h1 u (List.mem_of_mem_take hu)
              · exact q2 u hu
            · exact h1 u (List.mem_of_mem_drop hu)
        · cases h
      · cases h
theorem zero_rep {z : Value} {zs : List Value} (hz : z.cells.toList = zs) : RepL G (zs.map .val) z.cells.toList := by
  rw [hz]
  refine RepL.of_get (by simp) fun i x v hx hv => ?_
  rw [List.getElem?_map, hv] at hx
  cases hx
  exact rep_val.2 rfl
theorem places_info : ∀ (fs : List Field) (pl : List (Nat × Nat)), fs.mapM (fun f => (td P f.type).map fun d => (f.offset, d.size)) = some pl →
    fs.mapM (fun f => (P.info? f.type).map fun i => (f.offset, i.size)) = some pl
  | [], pl, h => by simpa using h
  | f :: fs, pl, h => by
    simp only [List.mapM_cons, Option.bind_eq_bind, Option.pure_def] at h ⊢
    cases ht : td P f.type with
    | none => simp [ht] at h
    | some d =>
      obtain ⟨_, i, _, hi, hs, _⟩ := td_spec ht
      cases hr : fs.mapM (fun f => (td P f.type).map fun d => (f.offset, d.size)) with
      | none => simp [ht, hr] at h
      | some rest =>
        have := places_info fs rest hr
        simp [ht, hr] at h
        simp [hi, hs, this, h]
theorem build_ok (H : Pre cx G w st a) {t : TypeId} {d : TD} {parts : Array (Nat × Operand)} {cs : List C} (hd : td cx.P t = some d) (hz1 : d.zero.all (·.oneCell') = true)
    (h : ((places cx.P d.u).bind fun pl => lay pl (d.zero.map .val) (parts.toList.map fun x => (x.1, cx.evn st.env x.2))) = some cs) :
    ∃ v, (Instr.build t (parts.map fun (i, x) => (i, a.eval x))).run cx.P w = .ok v w ∧ Rep G (.agg cs) v := by
  obtain ⟨hu, it, z, hi, _, _, hz, hzz⟩ := td_spec hd
  cases hp : places cx.P d.u with
  | none => rw [hp] at h; cases h
  | some pl =>
    rw [hp] at h
    simp only [Option.bind_some] at h
    obtain ⟨cs', f1, f2, f3⟩ := lay_fill (G := G) (parts.toList.map fun x => (x.1, cx.evn st.env x.2)) (parts.toList.map fun x => (x.1, a.eval x.2)) _ cs z.cells
      (by simp) (by
        intro i c v hc hv
        simp only [List.map_map, List.getElem?_map] at hc hv
        cases hx : parts.toList[i]? with
        | none => rw [hx] at hc; cases hc
        | some x =>
          rw [hx] at hc hv
          cases hc; cases hv
          exact H.evn x.2)
      (zero_rep hzz) (fun u hu => by rw [hzz] at hu; exact (List.all_eq_true.1 hz1) u hu) h
    refine ⟨.agg cs', run_build w t _ cs' ?_, by simp only [Rep]; exact ⟨cs', rfl, f2, f3⟩⟩
    have hpt : (parts.map fun (i, x) => (i, a.eval x)).toList = parts.toList.map fun x => (x.1, a.eval x.2) := by simp
    rw [hpt]
    unfold Program.built
    unfold places at hp
    split at hp
    · rename_i fields hs
      cases hm : fields.toList.mapM (fun f => (td cx.P f.type).map fun d => (f.offset, d.size)) with
      | none => rw [hm] at hp; cases hp
      | some l =>
        rw [hm] at hp
        cases hp
        rw [hi, hu, hs]
        simp only [hz, places_info _ _ hm]
        have : (fun x : Nat => l.toArray[x]?) = fun i => l[i]? := by funext x; simp
        rw [this]
        exact f1
    · rename_i n e hs
      cases he : td cx.P e with
      | none => rw [he] at hp; cases hp
      | some de =>
        rw [he] at hp
        cases hp
        obtain ⟨_, ie, _, hie, hsz, _⟩ := td_spec he
        rw [hi, hu, hs]
        simp only [hz, hie, hsz]
        exact f1
    · cases hp
theorem madeCells_step (z : Array Value) (n : Nat) : (madeCells z ((n + 1) * z.size)).toList = z.toList ++ (madeCells z (n * z.size)).toList := by
  apply List.ext_getElem?
  intro i
  simp only [madeCells, Array.toList_map, Array.toList_range, List.getElem?_map]
  by_cases hi : i < z.size
  · rw [List.getElem?_append_left (by simpa using hi)]
    have h2 : i < (n + 1) * z.size := by rw [Nat.succ_mul]; omega
    simp [List.getElem?_range h2, Nat.mod_eq_of_lt hi, hi]
  · rw [List.getElem?_append_right (by simpa using hi)]
    simp only [Array.length_toList, List.getElem?_map]
    have hmul : (n + 1) * z.size = n * z.size + z.size := Nat.succ_mul n z.size
    by_cases h2 : i < (n + 1) * z.size
    · have h3 : i - z.size < n * z.size := by omega
      rw [List.getElem?_range h2, List.getElem?_range h3]
      simp only [Option.map_some, Option.some.injEq]
      rw [Nat.mod_eq_sub_mod (by omega)]
    · rw [List.getElem?_eq_none (by simpa using h2), List.getElem?_eq_none (by simp; omega)]
theorem repZero_rep (z : Array Value) (zs : List Value) (hz : z.toList = zs) : ∀ n, RepL G (repZero zs n) (madeCells z (n * z.size)).toList
  | 0 => by simp [repZero, madeCells, RepL]
  | n + 1 => by
    rw [madeCells_step]
    simp only [repZero]
    refine RepL.append ?_ (repZero_rep z zs hz n)
    subst hz
    refine RepL.of_get (by simp) fun i x v hx hv => ?_
    rw [List.getElem?_map, hv] at hx
    cases hx
    exact rep_val.2 rfl
theorem made_one (z : Array Value) (h1 : ∀ u ∈ z.toList, u.oneCell' = true) : ∀ n, ∀ u ∈ (madeCells z (n * z.size)).toList, u.oneCell' = true
  | 0 => by simp [madeCells]
  | n + 1 => by
    rw [madeCells_step]
    intro u hu
    rcases List.mem_append.1 hu with hu | hu
    · exact h1 u hu
    · exact made_one z h1 n u hu
theorem buildSlice_run (H : Pre cx G w st a) {t e : TypeId} {d de : TD} {n : Nat} {parts : Array (Nat × Operand)} {cs : List C} (hd : td cx.P t = some d) (hu : d.u = .slice e) (he : td cx.P e = some de)
    (hz1 : de.zero.all (·.oneCell') = true) (hn : n * de.size ≤ 65536 ∧ n ≤ 65536 ∧ de.zero.length = de.size)
    (h : lay (fun i => some (i * de.size, de.size)) (repZero de.zero n) (parts.toList.map fun x => (x.1, cx.evn st.env x.2)) = some cs) :
    ∃ cs' : Array Value, RepL G cs cs'.toList ∧ (∀ u ∈ cs'.toList, u.oneCell' = true) ∧ (Instr.buildSlice t n (parts.map fun (i, x) => (i, a.eval x))).run cx.P w = .ok (.slice (some ⟨w.heap.size, 0, none⟩) n n) (w.alloc (.cells cs' e)) := by
  obtain ⟨_, it, z, hi, hsz, _, hz, hzz⟩ := td_spec he
  have hzs : z.cells.size = de.size := by rw [← hn.2.2, ← hzz]; simp
  have hz1' : ∀ u ∈ z.cells.toList, u.oneCell' = true := fun u hu => by rw [hzz] at hu; exact (List.all_eq_true.1 hz1) u hu
  obtain ⟨cs', f1, f2, f3⟩ := lay_fill (G := G) (parts.toList.map fun x => (x.1, cx.evn st.env x.2)) (parts.toList.map fun x => (x.1, a.eval x.2)) _ cs (madeCells z.cells (n * de.size))
      (by simp) (by
        intro i c v hc hv
        simp only [List.map_map, List.getElem?_map] at hc hv
        cases hx : parts.toList[i]? with
        | none => rw [hx] at hc; cases hc
        | some x =>
          rw [hx] at hc hv
          cases hc; cases hv
          exact H.evn x.2)
      (by rw [← hzs]; exact repZero_rep z.cells de.zero hzz n) (by rw [← hzs]; exact made_one z.cells hz1' n) h
  have hpt : (parts.map fun (i, x) => (i, a.eval x)).toList = parts.toList.map fun x => (x.1, a.eval x.2) := by simp
  have hrun : (Instr.buildSlice t n (parts.map fun (i, x) => (i, a.eval x))).run cx.P w = .ok (.slice (some ⟨w.heap.size, 0, none⟩) n n) (w.alloc (.cells cs' e)) := by
    unfold Instr.buildSlice
    have h24 : ¬ (16777216 < n * de.size) := by omega
    by_cases h0 : n * de.size = 0
    · have hm0 : (madeCells z.cells (n * de.size)) = #[] := by rw [h0]; simp [madeCells]
      rw [hm0] at f1
      simp [run_und hd, hu, run_size he, h0, newRow]
      have h00 : (Array.map (fun _ => (default : Value)) (Array.range 0)) = #[] := by simp
      rw [h00, f1]
      simp [newObj, Sem.run]
    · have hf : Instr.fill (fun i => some (i * de.size, de.size)) ((Array.range (n * de.size)).map fun x => z.cells[x % z.cells.size]!) (parts.toList.map fun x => (x.1, a.eval x.2)) = some cs' := f1
      simp [run_und hd, hu, run_size he, h0, h24, zeroValue, typeInfo, hi, hz, newRow]
      rw [hf]
      simp
  exact ⟨cs', f2, f3, hrun⟩
theorem buildSlice_ok (H : Pre cx G w st a) (dp : Place) {t e : TypeId} {d de : TD} {n : Nat} {parts : Array (Nat × Operand)} {cs : List C} (hd : td cx.P t = some d) (hu : d.u = .slice e) (he : td cx.P e = some de)
    (hz1 : de.zero.all (·.oneCell') = true) (hn : n * de.size ≤ 65536 ∧ n ≤ 65536 ∧ de.zero.length = de.size)
    (h : lay (fun i => some (i * de.size, de.size)) (repZero de.zero n) (parts.toList.map fun x => (x.1, cx.evn st.env x.2)) = some cs) :
    ∃ v w' G', (Instr.buildSlice t n (parts.map fun (i, x) => (i, a.eval x))).run cx.P w = .ok v w' ∧ Out G w st (av a) dp (.sl .full n cs) v G' w' := by
  obtain ⟨cs', f2, f3, hrun⟩ := buildSlice_run H hd hu he hz1 hn h
  obtain ⟨W, E⟩ := WorldOK.commit (w' := w.alloc (.cells cs' e)) H.ok cs'.toList none cs' e (0, 0) rfl rfl rfl rfl (by intro j u hu; simpa using hu)
  have le := E.le H.ok
  refine ⟨_, _, _, hrun, ⟨?_, by simp, W, E.env H.ok H.env, E.frm H.ok⟩⟩
  simp only [Rep]
  have hml : maxLen = 9223372036854775807 := by decide
  refine ⟨_, _, rfl, Nat.le_refl _, by omega, by simp, .inr ⟨w.heap.size, 0, rfl, repK_of (f2.mono le) f3 fun j u hu => ?_⟩⟩
  simp only [setT, Sx.commit, if_true, Nat.zero_add]
  exact hu
theorem OpOK.new (H : Pre cx G w st a) {id : Nat} (hid : st.h[id]? = some none) {cells : List C} {vs : Array Value} {e : TypeId} {d : Place} {c : C} {v : Value}
    (hrun : (execOp a.eval o).run cx.P w = .ok (.value v) (w.alloc (.cells vs e))) (hr : RepL G cells vs.toList) (h1 : ∀ u ∈ vs.toList, u.oneCell' = true)
    (hno : ∀ x ∈ cells, x.noOwn) (hc : ∀ G', G'.μ id = some w.heap.size → G'.σ id = some (vs.size, e) → Rep G' c v) (hcn : c.noOwn) :
    OpOK cx.P o a G w ⟨st.env, st.h.set id (some cells)⟩ d c := by
  obtain ⟨W, E⟩ := WorldOK.newBox (w' := w.alloc (.cells vs e)) H.ok id hid cells vs e rfl hr h1 (by
    intro off s n xs hx
    have := hno _ (List.mem_of_getElem? hx)
    exact this)
  exact OpOK.of_run hrun ⟨_, hc _ (by simp [setμ]) (by simp [setμ]), fun s n xs e => by rw [e] at hcn; exact hcn.elim, W, E.env H.ok H.env, E.frm H.ok⟩
end
end Go.Sx
namespace Go.Sx
open Go.RowKit
section
variable {cx : Cx} {G : Gh} {h : Hp} {w : World} {st : St} {a : Act} {o : Oper} {P : Program}
theorem getAt_load {t : TypeId} {d : TD} (hd : td P t = some d) {xs : List C} {vs : List Value} {blk o0 off : Nat} {c : C} (hr : RepL G xs vs) (h1 : ∀ u ∈ vs, u.oneCell' = true)
    (hc : ∀ (j : Nat) (u : Value), vs[j]? = some u → w.cell? ⟨blk, o0 + j, none⟩ = some u) (hg : getAt d xs off = some c) :
    ∃ v, (Instr.loadAt t (.pointer (some ⟨blk, o0 + off, none⟩))).run P w = .ok v w ∧ Rep G c v ∧ c.noOwn := by
  unfold getAt at hg
  simp only [Instr.loadAt, Instr.sureAddr, Sem.run_bind, Sem.run_pure, Result.andThen_ok, loadVar, run_isAgg hd]
  split at hg
  · rename_i ha
    rw [if_pos ha]
    split at hg
    · rename_i hle
      cases hg
      have hl : ((vs.drop off).take d.size).length = d.size := by
        have := hr.length
        simp only [List.length_take, List.length_drop]; omega
      have hrun := run_loadCells_list (P := P) w ⟨blk, o0 + off, none⟩ ((vs.drop off).take d.size) (fun j v hv => by
        rw [addr_add]
        rw [List.getElem?_take] at hv
        split at hv
        · rw [List.getElem?_drop] at hv
          rw [Nat.add_assoc]
          exact hc _ v hv
        · cases hv)
      rw [hl] at hrun
      simp only [Sem.run_bind, run_size hd, Result.andThen_ok, hrun, Sem.run_pure]
      refine ⟨_, rfl, ?_, trivial⟩
      simp only [Rep]
      exact ⟨_, rfl, by simpa using ((hr.drop off).take d.size).map_noR, fun u hu => h1 u (List.mem_of_mem_drop (List.mem_of_mem_take (by simpa using hu)))⟩
    · cases hg
  · rename_i ha
    rw [if_neg ha]
    cases hx : xs[off]? with
    | none => rw [hx] at hg; cases hg
    | some x =>
      rw [hx] at hg
      cases hg
      obtain ⟨v, hv, hrv⟩ := hr.get off x hx
      have := hc off v hv
      exact ⟨v, by simp [load, Sem.run, this], hrv.noR, noOwn_noR x⟩
theorem box_cells (H : WorldOK G h w) {b : Nat} {cells : List C} (hb : h.at b = some cells) {blk : Nat} (hμ : G.μ b = some blk) :
    ∃ cs e, RowIs w.heap[blk]? cs e ∧ RepL G cells (cs.toList.take cells.length) ∧ (∀ u ∈ cs.toList, u.oneCell' = true) ∧ (∀ (j : Nat) (u : Value), (cs.toList.take cells.length)[j]? = some u → w.cell? ⟨blk, j, none⟩ = some u) ∧ cells.length ≤ cs.size ∧ (∀ (j : Nat) (u : Value), cs.toList[j]? = some u → w.cell? ⟨blk, j, none⟩ = some u) := by
  obtain ⟨cs, e, ⟨fr, h2, hfr⟩, h0, h3, h4⟩ := H.bx hb hμ
  exact ⟨cs, e, ⟨fr, h2, hfr⟩, h3, h4, (fun j u hu => by
    rw [List.getElem?_take] at hu
    split at hu
    · simp only [World.cell?, h2]; simpa using hu
    · cases hu), h0, fun j u hu => by simp only [World.cell?, h2]; simpa using hu⟩
theorem WorldOK.setB {G' : Gh} {w' : World} (H : WorldOK G h w) {b blk : Nat} (hb : G.μ b = some blk) {cells0 : List C} (hc0 : h.at b = some cells0) {old : Array Value} {e : TypeId} (q1 : RowIs w.heap[blk]? old e)
    (cells : List C) (hcl : cells.length = cells0.length) (vs : Array Value) (hsz : vs.size = old.size) (hlc : cells0.length ≤ old.size) (hg : G' = { G with T := G'.T })
    (hw : w' = w.setRow blk vs) (hr : RepL G cells (vs.toList.take cells0.length)) (h1 : ∀ v ∈ vs.toList, v.oneCell' = true)
    (hT : ∀ g, G'.T g = none ↔ G.T g = none) (hTo : ∀ g b' o, b' ≠ b → (G.T g = some (1, b', o) → G'.T g = some (1, b', o)))
    (hown : ∀ (off s n : Nat) (xs : List C) (v : Value), cells[off]? = some (C.sl (.own s) n xs) → vs[off]? = some v → OwnRow G' w (1, b, off) v s n) :
    WorldOK G' (h.set b (some cells)) w' :=
  WorldOK.setBox H b blk hb hc0 cells vs hg hw (fun cs e' fr x => by obtain ⟨fr', q1, _⟩ := q1; rw [q1] at x; cases x; exact hsz) (by omega) (by rw [hcl]; exact hr) h1 hT hTo hown
theorem load_ok (H : Pre cx G w st a) {own : Bool} {t : TypeId} {x : Operand} {p : Plan} (ho : o.op = .load t x) (hp : loadPlan cx.P own t (cx.evn st.env x) = some p)
    {id : Nat} {c : C} {st' : St} (hact : act cx id p st = some (c, st')) (d : Place) : OpOK cx.P o a G w st' d c := by
  have hx := H.evn x
  have hex : (execOp a.eval o).run cx.P w = ((Instr.loadAt t (a.eval x)).run cx.P w).andThen fun v w' => .ok (.value v) w' := by
    simp only [execOp, ho, Sem.run_bind, Sem.run_pure]
  unfold loadPlan at hp
  split at hp
  · cases hp
  rename_i dt hd
  split at hp
  · rename_i b off hc
    rw [hc] at hx
    simp only [Rep] at hx
    obtain ⟨blk, hμ, hv⟩ := hx
    split at hp
    · -- with its right
      rename_i hown
      cases hp
      simp only [act, actH] at hact
      cases hb : st.h.at b with
      | none => rw [hb] at hact; cases hact
      | some cells =>
        rw [hb] at hact
        simp only [Option.bind_some] at hact
        cases hcell : cells[off]? with
        | none => rw [hcell] at hact; cases hact
        | some y =>
          rw [hcell] at hact
          simp only [Option.map_some, Option.some.injEq, Prod.mk.injEq] at hact
          obtain ⟨rfl, rfl⟩ := hact
          obtain ⟨cs, e, q1, q2, q3, q4, q5, q6⟩ := box_cells H.ok hb hμ
          obtain ⟨v, hv1, hv2⟩ := q2.get off y hcell
          have hrun : (execOp a.eval o).run cx.P w = .ok (.value v) w := by
            rw [hex, hv]
            have := q4 off v hv1
            simp [Instr.loadAt, Instr.sureAddr, loadVar, run_isAgg hd, hown.2, load, Sem.run, this]
          have hset : ∀ G' : Gh, G.Le G' → RepL G' (cells.set off y.noR) (cs.toList.take cells.length) := fun G' le => by
            refine RepL.of_get (by simpa using q2.length) fun i x u hx hu => ?_
            rw [List.getElem?_set] at hx
            split at hx
            · rename_i hio
              subst hio
              split at hx
              · cases hx
                rw [hv1] at hu
                cases hu
                exact hv2.noR.mono le
              · cases hx
            · obtain ⟨u', hu', hr'⟩ := q2.get i x hx
              rw [hu] at hu'
              cases hu'
              exact hr'.mono le
          have hself : w.setRow blk cs = w := by obtain ⟨fr, q1, _⟩ := q1; exact setRow_self w blk cs e fr q1
          have oldown : ∀ (off' s n : Nat) (xs : List C) (u : Value), (cells.set off y.noR)[off']? = some (C.sl (.own s) n xs) → cs[off']? = some u → off' ≠ off ∧ OwnRow G w (1, b, off') u s n := by
            intro off' s n xs u hx hu
            rw [List.getElem?_set] at hx
            split at hx
            · split at hx
              · simp only [Option.some.injEq] at hx
                exact (noR_own hx).elim
              · cases hx
            · rename_i hne
              exact ⟨fun e => hne e.symm, H.ok.own b cells off' s n xs blk u hb hx hμ (q6 off' u (by simpa using hu))⟩
          by_cases hno : y.noOwn
          · refine OpOK.of_run hrun ⟨G, hv2, fun s n xs e => by rw [e] at hno; exact hno.elim, ?_, H.env, Frm.refl G w⟩
            have := WorldOK.setB (G' := G) (w' := w) H.ok hμ hb q1 (cells.set off y.noR) (by simp) cs rfl q5 rfl hself.symm (hset G (.refl G)) q3 (fun _ => Iff.rfl) (fun _ _ _ _ x => x)
              (fun off' s n xs u hx hu => (oldown off' s n xs u hx hu).2)
            exact this
          · obtain ⟨s, n, xs, hs⟩ : ∃ s n xs, y = .sl (.own s) n xs := by
              cases y with
              | sl r n xs => cases r with
                | own s => exact ⟨_, _, _, rfl⟩
                | no => exact absurd trivial hno
                | full => exact absurd trivial hno
              | _ => exact absurd trivial hno
            have hO := H.ok.own b cells off s n xs blk v hb (hs ▸ hcell) hμ (q4 off v hv1)
            rcases hO with hO | ⟨g, cap, cur, e', a1, a2, a3, a4, a5, a6⟩
            · refine OpOK.of_run hrun ⟨G, hv2, fun s' n' xs' e => by rw [hs] at e; cases e; exact .inl hO, ?_, H.env, Frm.refl G w⟩
              exact WorldOK.setB (G' := G) (w' := w) H.ok hμ hb q1 (cells.set off y.noR) (by simp) cs rfl q5 rfl hself.symm (hset G (.refl G)) q3 (fun _ => Iff.rfl) (fun _ _ _ _ x => x)
                (fun off' s n xs u hx hu => (oldown off' s n xs u hx hu).2)
            · have le : G.Le (setT G g (some d)) := ⟨fun _ _ _ x => x, fun _ _ x => x, fun _ _ x => x⟩
              have tne : ∀ {r : Place} {v' : Value} {s' n' : Nat}, r ≠ (1, b, off) → OwnRow G w r v' s' n' → OwnRow (setT G g (some d)) w r v' s' n' := by
                intro r v' s' n' hne O
                rcases O with O | ⟨g', cap', cur', e'', b1, b2, b3, b4, b5, b6⟩
                · exact .inl O
                · have hg : g' ≠ g := fun q => hne (by rw [q, a2] at b2; exact (Option.some.inj b2).symm)
                  exact .inr ⟨g', cap', cur', e'', b1, by simp only [setT]; rw [if_neg hg]; exact b2, b3, b4, b5, b6⟩
              refine OpOK.of_run hrun ⟨setT G g (some d), hv2.mono le, ?_, ?_, ⟨fun t => (H.env.1 t).mono le, fun t s' n' xs' e'' => tne (by simp) (H.env.2 t s' n' xs' e'')⟩, frm_retag a2⟩
              · intro s' n' xs' e''
                rw [hs] at e''
                cases e''
                exact .inr ⟨g, cap, cur, e', a1, by simp [setT], a3, a4, a5, a6⟩
              · refine WorldOK.setB (G' := setT G g (some d)) (w' := w) H.ok hμ hb q1 (cells.set off y.noR) (by simp) cs rfl q5 rfl hself.symm (hset _ (.refl G)) q3 (fun k => ?_) (fun k b' o' hb' hk => ?_) (fun off' s' n' xs' u hx hu => ?_)
                · simp only [setT]
                  split
                  · subst_vars; simp [a2]
                  · rfl
                · simp only [setT]
                  rw [if_neg]
                  · exact hk
                  · intro q
                    rw [q, a2] at hk
                    simp only [Option.some.injEq, Prod.mk.injEq, true_and] at hk
                    exact hb' hk.1.symm
                · obtain ⟨h1, h2⟩ := oldown off' s' n' xs' u hx hu
                  exact tne (by simp; exact h1) h2
    · cases hp
      simp only [act, actH] at hact
      cases hb : st.h.at b with
      | none => rw [hb] at hact; cases hact
      | some cells =>
        rw [hb] at hact
        simp only [Option.bind_some] at hact
        cases hg : getAt dt cells off with
        | none => rw [hg] at hact; cases hact
        | some y =>
          rw [hg] at hact
          cases hact
          obtain ⟨cs, e, q1, q2, q3, q4, q5, q6⟩ := box_cells H.ok hb hμ
          obtain ⟨v, hv1, hv2, hv3⟩ := getAt_load (P := cx.P) (w := w) (blk := blk) (o0 := 0) hd q2 (fun u hu => q3 u (List.mem_of_mem_take hu)) (fun j u hu => by rw [Nat.zero_add]; exact q4 j u hu) hg
          rw [Nat.zero_add] at hv1
          exact OpOK.pure H (by rw [hex, hv, hv1]; rfl) hv2 hv3
  · rename_i xs hc
    rw [hc] at hx
    simp only [Rep] at hx
    obtain ⟨blk, off, hv, hk⟩ := hx
    cases hg : getAt dt xs (loadPlan.off0) with
    | none => rw [hg] at hp; cases hp
    | some y =>
      rw [hg] at hp
      cases hp
      simp only [act, actH, Plan.pure] at hact
      cases hact
      obtain ⟨vs, v1, v2, v3, v4⟩ := hk.values
      obtain ⟨v, hv1, hv2, hv3⟩ := getAt_load (P := cx.P) (w := w) (blk := blk) (o0 := off) hd v2 v4 (fun j u hu => H.ok.known _ _ _ (v3 j u hu)) hg
      rw [show off + loadPlan.off0 = off from rfl] at hv1
      exact OpOK.pure H (by rw [hex, hv, hv1]; rfl) hv2 hv3
  · cases hp
end
end Go.Sx
namespace Go.Sx
open Go.RowKit
section
variable {cx : Cx} {G : Gh} {h : Hp} {w : World} {st : St} {a : Act} {o : Oper} {P : Program}
theorem env_setRow {b blk : Nat} (hμ : G.μ b = some blk) (cs : Array Value) {env : Nat → C} {f : Nat → Value} (E : EnvOK G w env f) : EnvOK G (w.setRow blk cs) env f := by
  refine ⟨E.1, fun t s n xs he => ?_⟩
  rcases E.2 t s n xs he with O | ⟨g, cap, cur, e', a1, a2, a3, a4, a5, a6⟩
  · exact .inl O
  · have hne : g ≠ blk := fun q => a6 b (q ▸ hμ)
    exact .inr ⟨g, cap, cur, e', a1, a2, by rw [setRow_other w blk g cs hne]; exact a3, a4, a5, a6⟩
theorem frm_setRow {G' : Gh} {b blk : Nat} (hμ : G.μ b = some blk) (cs : Array Value) (hK : G'.K = G.K) (hm : G'.μ = G.μ) (hT : ∀ g, G'.T g = none ↔ G.T g = none) (hσ : G'.σ = G.σ := by rfl) : Frm G w G' (w.setRow blk cs) :=
  ⟨rfl, rfl, rfl, by simp, ⟨fun _ _ _ x => by rw [hK]; exact x, fun _ _ x => by rw [hm]; exact x, fun _ _ x => by rw [hσ]; exact x⟩, fun g _ ht hmu =>
    ⟨setRow_other w blk g cs (fun q => hmu b (q ▸ hμ)), (hT g).2 ht, fun b' => by rw [hm]; exact hmu b', fun o => by rw [hK]⟩⟩
theorem run_store_at {t : TypeId} {d : TD} (hd : td P t = some d) {blk off : Nat} {cs : Array Value} {e : TypeId} (hg : RowIs w.heap[blk]? cs e) {v : Value}
    (hs : v.cells.size = d.size) (hfit : off + v.cells.size ≤ cs.size) (h1 : ∀ u ∈ v.cells.toList, u.oneCell' = true) :
    (Instr.storeAt t (.pointer (some ⟨blk, off, none⟩)) v).run P w = .ok () (w.setRow blk (cs.toList.take off ++ v.cells.toList ++ cs.toList.drop (off + v.cells.toList.length)).toArray) := by
  obtain ⟨fr, hg, hfr⟩ := hg
  have := run_storeCells_fr P blk off e fr v.cells.toList 0 cs w hg hfr (by simpa using hfit) h1
  simp only [Nat.add_zero] at this
  simp [Instr.storeAt, Instr.sureAddr, storeVar, run_size hd, hs, this]
theorem store_cells (H : Pre cx G w st a) {b blk off : Nat} (hμ : G.μ b = some blk) {cells cs : List C} (hb : st.h.at b = some cells) (hno : ∀ x ∈ cs, x.noOwn) {vs : List Value} (hr : RepL G cs vs)
    (h1 : ∀ u ∈ vs, u.oneCell' = true) (hfit : off + cs.length ≤ cells.length) :
    ∃ old e, RowIs w.heap[blk]? old e ∧ off + vs.length ≤ old.size ∧ ∃ W : World, W = w.setRow blk (old.toList.take off ++ vs ++ old.toList.drop (off + vs.length)).toArray ∧
      WorldOK G (st.h.set b (some (splice cells off cs))) W ∧ EnvOK G W st.env (av a) ∧ Frm G w G W := by
  obtain ⟨old, e, q1, q2, q3, q4, q5, q6⟩ := box_cells H.ok hb hμ
  have hlen := hr.length
  have hol : cells.length ≤ old.toList.length := by simpa using q5
  have hos : off + vs.length ≤ old.size := by rw [← hlen]; omega
  refine ⟨old, e, q1, hos, _, rfl, ?_, env_setRow hμ _ H.env, frm_setRow hμ _ rfl rfl fun _ => Iff.rfl⟩
  refine WorldOK.setB (G' := G) H.ok hμ hb q1 _ (by unfold splice; simp; omega) _ (by simp; omega) q5 rfl rfl ?_ ?_ (fun _ => Iff.rfl) (fun _ _ _ _ x => x) ?_
  · have := q2.splice hr off
    rw [List.take_take, Nat.min_eq_left (by omega : off ≤ cells.length), List.drop_take] at this
    simp only [List.toList_toArray]
    rw [List.take_append, List.take_append, List.take_take, Nat.min_eq_right (by omega : off ≤ cells.length), List.take_of_length_le (l := vs) (by simp; omega)]
    rw [show (List.take off old.toList ++ vs).length = off + vs.length by simp; omega]
    exact this
  · intro u hu
    simp only [List.mem_append] at hu
    rcases hu with (hu | hu) | hu
    · exact q3 u (List.mem_of_mem_take hu)
    · exact h1 u hu
    · exact q3 u (List.mem_of_mem_drop hu)
  · intro off' s n xs u hx hu
    unfold splice at hx
    simp only [List.getElem?_toArray] at hu
    have htk : (cells.take off).length = off := by rw [List.length_take]; omega
    have htk' : (old.toList.take off).length = off := by rw [List.length_take]; omega
    rw [List.append_assoc] at hx hu
    by_cases h1' : off' < off
    · rw [List.getElem?_append_left (by rw [htk]; exact h1'), List.getElem?_take, if_pos h1'] at hx
      rw [List.getElem?_append_left (by rw [htk']; exact h1'), List.getElem?_take, if_pos h1'] at hu
      exact H.ok.own b cells off' s n xs blk u hb hx hμ (q6 off' u hu)
    · rw [List.getElem?_append_right (by rw [htk]; omega), htk] at hx
      rw [List.getElem?_append_right (by rw [htk']; omega), htk'] at hu
      by_cases h2' : off' - off < cs.length
      · rw [List.getElem?_append_left h2'] at hx
        exact (hno _ (List.mem_of_getElem? hx)).elim
      · rw [List.getElem?_append_right (by omega), List.getElem?_drop] at hx
        rw [List.getElem?_append_right (by rw [← hlen]; omega), List.getElem?_drop, ← hlen] at hu
        have he : off + cs.length + (off' - off - cs.length) = off' := by omega
        rw [he] at hx hu
        exact H.ok.own b cells off' s n xs blk u hb hx hμ (q6 off' u hu)
theorem store_ok (H : Pre cx G w st a) {t : TypeId} {x y : Operand} {p : Plan} (ho : o.op = .store t x y) (hp : storePlan cx.P t (cx.evn st.env x) (cx.ev st.env y) (tmp? y) = some p)
    {id : Nat} {c : C} {st' : St} (hact : act cx id p st = some (c, st')) (d : Place) : OpOK cx.P o a G w st' d c := by
  have hx := H.evn x
  have hy := H.ev y
  have hex : (execOp a.eval o).run cx.P w = ((Instr.storeAt t (a.eval x) (a.eval y)).run cx.P w).andThen fun _ w' => .ok .skip w' := by
    simp only [execOp, ho, Sem.run_bind, Sem.run_pure]
  unfold storePlan at hp
  split at hp
  · cases hp
  rename_i dt hd
  split at hp
  · rename_i b off hc
    rw [hc] at hx
    simp only [Rep] at hx
    obtain ⟨blk, hμ, hv⟩ := hx
    split at hp
    · -- one slice, with its right
      rename_i r n xs hyc
      split at hp
      · rename_i hds
        cases hp
        simp only [act, actH] at hact
        cases hb : st.h.at b with
        | none => rw [hb] at hact; cases hact
        | some cells =>
          rw [hb] at hact
          simp only [Option.bind_some] at hact
          split at hact
          · rename_i hoff
            simp only [Option.map_some, Option.some.injEq, Prod.mk.injEq] at hact
            obtain ⟨rfl, rfl⟩ := hact
            rw [hyc] at hy
            have hy0 := hy
            simp only [Rep] at hy
            obtain ⟨ad, cap, hyv, _⟩ := hy
            obtain ⟨old, e, q1, q2, q3, q4, q5, q6⟩ := box_cells H.ok hb hμ
            have hol : cells.length ≤ old.toList.length := by simpa using q5
            have hos : off < old.size := by omega
            have hcells : (a.eval y).cells = #[a.eval y] := by rw [hyv]; rfl
            have hrun := run_store_at (P := cx.P) (w := w) hd q1 (off := off) (v := a.eval y) (by rw [hcells, hds]; rfl) (by rw [hcells]; simp; omega) (by rw [hcells]; simp [hyv]; rfl)
            rw [hcells] at hrun
            have hset : (old.toList.take off ++ #[a.eval y].toList ++ old.toList.drop (off + #[a.eval y].toList.length)).toArray = old.setIfInBounds off (a.eval y) := by
              apply Array.ext'
              simp only [Array.toList_setIfInBounds, List.length_singleton]
              rw [List.set_eq_take_append_cons_drop, if_pos (by simpa using hos)]
              simp
            rw [hset] at hrun
            have hrun' : (execOp a.eval o).run cx.P w = .ok .skip (w.setRow blk (old.setIfInBounds off (a.eval y))) := by
              rw [hex, hv, hrun]; rfl
            have rep' : ∀ G', G.Le G' → RepL G' (cells.set off (.sl r n xs)) ((old.setIfInBounds off (a.eval y)).toList.take cells.length) := fun G' le => by
              refine RepL.of_get (by simp; omega) fun i z u hz hu => ?_
              have hil : i < cells.length := by have := (List.getElem?_eq_some_iff.1 hz).1; simpa using this
              rw [List.getElem?_set] at hz
              simp only [List.getElem?_take, if_pos hil, Array.toList_setIfInBounds, List.getElem?_set] at hu
              split at hz
              · rename_i hio
                rw [if_pos hio] at hu
                subst hio
                try rw [if_pos hoff] at hz
                try rw [if_pos (by simpa using hos)] at hu
                cases hz; cases hu
                exact hy0.mono le
              · rename_i hio
                rw [if_neg hio] at hu
                obtain ⟨u', hu', hr'⟩ := q2.get i z hz
                rw [List.getElem?_take, if_pos hil, hu] at hu'
                cases hu'
                exact hr'.mono le
            have one' : ∀ u ∈ (old.setIfInBounds off (a.eval y)).toList, u.oneCell' = true := by
              intro u hu
              simp only [Array.toList_setIfInBounds] at hu
              rcases List.mem_or_eq_of_mem_set hu with hu | rfl
              · exact q3 u hu
              · rw [hyv]; rfl
            have oldown : ∀ (off' s n' : Nat) (xs' : List C) (u : Value), off' ≠ off → (cells.set off (.sl r n xs))[off']? = some (C.sl (.own s) n' xs') → (old.setIfInBounds off (a.eval y))[off']? = some u → OwnRow G w (1, b, off') u s n' := by
              intro off' s n' xs' u hne hz hu
              rw [List.getElem?_set, if_neg (Ne.symm hne)] at hz
              have hu2 : old.toList[off']? = some u := by
                rw [Array.getElem?_setIfInBounds, if_neg (Ne.symm hne)] at hu
                simpa using hu
              exact H.ok.own b cells off' s n' xs' blk u hb hz hμ (q6 off' u hu2)
            have envk : EnvOK G w (killS (tmp? y) st.env) (av a) := ⟨fun t => killS_rep H.env _ t, fun t s n xs e => H.env.2 t s n xs (killS_own e).1⟩
            have plain : (∀ s, r = .own s → OwnRow G w (1, b, off) (a.eval y) s n) → OpOK cx.P o a G w ⟨killS (tmp? y) st.env, st.h.set b (some (cells.set off (.sl r n xs)))⟩ d (.val undef) := fun hO => by
              refine OpOK.of_skip hrun' ⟨G, rep_val.2 rfl, by simp, ?_, env_setRow hμ _ envk, frm_setRow hμ _ rfl rfl fun _ => Iff.rfl⟩
              refine WorldOK.setB (G' := G) H.ok hμ hb q1 _ (by simp) _ (by simp) q5 rfl rfl (rep' G (.refl G)) one' (fun _ => Iff.rfl) (fun _ _ _ _ x => x) fun off' s n' xs' u hz hu => ?_
              by_cases hoo : off' = off
              · subst hoo
                rw [List.getElem?_set, if_pos rfl, if_pos hoff] at hz
                cases hz
                rw [Array.getElem?_setIfInBounds, if_pos rfl, if_pos hos] at hu
                cases hu
                exact hO s rfl
              · exact oldown off' s n' xs' u hoo hz hu
            cases r with
            | no => exact plain (by simp)
            | full => exact plain (by simp)
            | own s =>
              obtain ⟨q, hq⟩ : ∃ q, y = .tmp q := by
                cases y with
                | tmp q => exact ⟨q, rfl⟩
                | const v => cases hyc
                | global g => exact (noR_own hyc).elim
                | func f => cases hyc
              subst hq
              have hyc' : st.env q = .sl (.own s) n xs := hyc
              rcases H.env.2 q s n xs hyc' with O | ⟨g, cap', cur, e', a1, a2, a3, a4, a5, a6⟩
              · exact plain fun s' e' => by cases e'; exact .inl O
              · have le : G.Le (setT G g (some (1, b, off))) := ⟨fun _ _ _ x => x, fun _ _ x => x, fun _ _ x => x⟩
                have hTi : ∀ k, (setT G g (some (1, b, off))).T k = none ↔ G.T k = none := fun k => by
                  simp only [setT]
                  split
                  · subst_vars; simp [a2]
                  · rfl
                have tne : ∀ {r : Place} {v' : Value} {s' n' : Nat}, r ≠ (0, q, 0) → OwnRow G w r v' s' n' → OwnRow (setT G g (some (1, b, off))) w r v' s' n' := by
                  intro r v' s' n' hne O
                  rcases O with O | ⟨g', cap'', cur', e'', b1, b2, b3, b4, b5, b6⟩
                  · exact .inl O
                  · have hg : g' ≠ g := fun z => hne (by rw [z, a2] at b2; exact (Option.some.inj b2).symm)
                    exact .inr ⟨g', cap'', cur', e'', b1, by simp only [setT]; rw [if_neg hg]; exact b2, b3, b4, b5, b6⟩
                have env2 : EnvOK (setT G g (some (1, b, off))) w (killS (some q) st.env) (av a) := ⟨fun t => (killS_rep H.env (some q) t).mono le, fun t s' n' xs' e'' => by
                  obtain ⟨e1, e2⟩ := killS_own e''
                  exact tne (by simp; exact fun z => e2 (by rw [z])) (H.env.2 t s' n' xs' e1)⟩
                have W := WorldOK.setB (G' := setT G g (some (1, b, off))) (w' := w.setRow blk (old.setIfInBounds off (a.eval (.tmp q)))) H.ok hμ hb q1 _ (by simp) _ (by simp) q5 rfl rfl (rep' G (.refl G)) one' hTi (fun k b' o' hb' hk => by
                    simp only [setT]
                    rw [if_neg]
                    · exact hk
                    · intro z; rw [z, a2] at hk; cases hk) (fun off' s' n' xs' u hz hu => by
                    by_cases hoo : off' = off
                    · subst hoo
                      rw [List.getElem?_set, if_pos rfl, if_pos hoff] at hz
                      cases hz
                      rw [Array.getElem?_setIfInBounds, if_pos rfl, if_pos hos] at hu
                      cases hu
                      exact .inr ⟨g, cap', cur, e', a1, by simp [setT], a3, a4, a5, a6⟩
                    · exact tne (by simp) (oldown off' s' n' xs' u hoo hz hu))
                refine OpOK.of_skip hrun' ⟨setT G g (some (1, b, off)), rep_val.2 rfl, by simp, W, ?_, frm_setRow hμ _ rfl rfl hTi⟩
                have hkey := env2
                refine ⟨hkey.1, fun t s' n' xs' he => ?_⟩
                rcases hkey.2 t s' n' xs' he with O | ⟨g2, cap2, cur2, e2, c1, c2, c3, c4, c5, c6⟩
                · exact .inl O
                · have hne : g2 ≠ blk := fun z => c6 b (z ▸ hμ)
                  exact .inr ⟨g2, cap2, cur2, e2, c1, c2, by rw [setRow_other w blk g2 _ hne]; exact c3, c4, c5, c6⟩
          · cases hact
      · cases hp
    · -- cells
      rename_i hnsl
      split at hp
      · rename_i cs hcs
        split at hp
        · rename_i hlen
          cases hp
          simp only [act, actH] at hact
          cases hb : st.h.at b with
          | none => rw [hb] at hact; cases hact
          | some cells =>
            rw [hb] at hact
            simp only [Option.bind_some] at hact
            split at hact
            · rename_i hoff
              simp only [Option.map_some, Option.some.injEq, Prod.mk.injEq] at hact
              obtain ⟨rfl, rfl⟩ := hact
              obtain ⟨r1, r2⟩ := cells?_rep hcs hy
              obtain ⟨old, e, q1, q2, W, rfl, w1, w2, w3⟩ := store_cells H hμ hb (cells?_noOwn hcs) r1 r2 hoff
              have hrun := run_store_at (P := cx.P) (w := w) hd q1 (off := off) (v := a.eval y) (by rw [← hlen, r1.length]; simp) (by simpa using q2) r2
              exact OpOK.of_skip (by rw [hex, hv, hrun]; rfl) ⟨G, rep_val.2 rfl, by simp, w1, w2, w3⟩
            · cases hact
        · cases hp
      · cases hp
  · cases hp
end
end Go.Sx
namespace Go.Sx
open Go.RowKit
section
variable {cx : Cx} {G : Gh} {h : Hp} {w : World} {st : St} {a : Act} {o : Oper} {P : Program}
def C.it (c : C) : C := c
theorem copy_ok (H : Pre cx G w st a) {t t2 : TypeId} {x y : Operand} {p : Plan} (ho : o.op = .call { callee := .builtin .copy, args := #[x, y], argTypes := #[t, t2] })
    {xc yc : C} (hx : Rep G xc.it (a.eval x)) (hy : Rep G yc.it (a.eval y)) (hp : copyPlan cx.P t xc.it yc.it = some p) {id : Nat} {c : C} {st' : St} (hact : act cx id p st = some (c, st')) (d : Place) : OpOK cx.P o a G w st' d c := by
  have hex := run_builtin (P := cx.P) (w := w) (a := a) .copy #[x, y] #[t, t2] (Builtin.copy_ #[t, t2] o.type #[a.eval x, a.eval y]) ho (fun cs => by simp [builtin])
  unfold copyPlan at hp
  split at hp
  · cases hp
  rename_i dt hd
  split at hp
  · rename_i e hu
    split at hp
    · cases hp
    rename_i de he
    split at hp
    · rename_i b off n m ys hc hs
      split at hp
      · rename_i hlen
        cases hp
        simp only [act, actH] at hact
        cases hb : st.h.at b with
        | none => rw [hb] at hact; cases hact
        | some cells =>
          rw [hb] at hact
          simp only [Option.bind_some] at hact
          split at hact
          · rename_i hoff
            simp only [Option.map_some, Option.some.injEq, Prod.mk.injEq] at hact
            obtain ⟨rfl, rfl⟩ := hact
            rw [hc] at hx
            simp only [Rep] at hx
            obtain ⟨ad, cap, hxv, hnc, hcm, had⟩ := hx
            obtain ⟨blk, hμ, hadd⟩ := had (by omega)
            subst hadd
            obtain ⟨news, n1, n2, n3⟩ := src_ok (P := cx.P) H.ok hs hlen.1 hy
            have hmn : min m n * de.size ≤ n * de.size := Nat.mul_le_mul_right _ (Nat.min_le_right _ _)
            have hmm : min m n * de.size ≤ m * de.size := Nat.mul_le_mul_right _ (Nat.min_le_left _ _)
            have htl : (news.take (min m n * de.size)).length = min m n * de.size := by rw [List.length_take, n1, hlen.1]; omega
            have hyl : (ys.take (min m n * de.size)).length = min m n * de.size := by rw [List.length_take, hlen.1]; omega
            obtain ⟨old, e', q1, q2, W, rfl, w1, w2, w3⟩ := store_cells H hμ hb (cs := (ys.take (min m n * de.size)).map C.noR) (vs := news.take (min m n * de.size)) (off := off)
              (by intro z hz; obtain ⟨z', _, rfl⟩ := List.mem_map.1 hz; exact noOwn_noR z') ((n2.take _).map_noR) (fun u hu => n3.2.2 u (List.mem_of_mem_take hu)) (by rw [List.length_map, hyl]; omega)
            have hfc : (Builtin.firstCells de.size (min m n) (a.eval y)).run cx.P w = .ok (news.take (min m n * de.size)).toArray w := by
              have hf := n3.2.1 w rfl
              have hl := n3.1
              unfold src? at hs
              split at hs
              · rename_i s hys
                rw [hys, rep_val] at hy
                rw [hy] at hf ⊢
                cases hs
                simp only [Builtin.firstCells, Sem.run_pure, Result.ok.injEq, and_true] at hf ⊢
                have h1 : s.size = s.size * de.size := by simpa using hlen.1
                have hnews : news = s.data.toList.map fun b => Value.int .u8 b.toNat := by
                  have := congrArg Array.toList hf
                  have h0 : s.extract 0 s.size = s := by apply ByteArray.ext; simp
                  rw [h0] at this
                  simpa using this.symm
                rw [hnews]
                apply Array.ext'
                have hsz : s.size = 0 ∨ de.size = 1 := by
                  rcases Nat.eq_zero_or_pos s.size with h0 | h0
                  · exact .inl h0
                  · exact .inr (Nat.eq_of_mul_eq_mul_left h0 (by omega))
                rcases hsz with h0 | h0
                · have : s.data.toList = [] := List.eq_nil_of_length_eq_zero (by simpa using h0)
                  simp [this, h0, ByteArray.data_extract]
                · rw [h0, Nat.mul_one]
                  simp [ByteArray.data_extract, List.map_take]
              · rename_i c0 hne
                obtain ⟨bb, cap', hyv, _, _, hk⟩ := sl?_rep hs hy
                rw [hyv] at hf ⊢
                rcases hk with rfl | ⟨blk', off', rfl, hk⟩
                · have hz : m * de.size = 0 := by rw [← hlen.1]; rfl
                  have hn0 : news = [] := List.eq_nil_of_length_eq_zero n1
                  subst hn0
                  have hz2 : min m n * de.size = 0 := by omega
                  cases bb with
                  | none => simp [Builtin.firstCells]
                  | some ad => simp [Builtin.firstCells, hz2, loadCells, loadCellsFrom]
                · obtain ⟨vs, v1, v2, v3, v4⟩ := hk.values
                  have hfv := cells_firstCells (P := cx.P) (w' := w) de.size m blk' off' m cap' vs (by rw [v1, hlen.1]) (fun j u hu => H.ok.known _ _ _ (v3 j u hu))
                  rw [hf] at hfv
                  have hvn : news = vs := by
                    have := congrArg (fun r => match r with | Result.ok v _ => Array.toList v | _ => []) hfv
                    simpa using this
                  subst hvn
                  refine cells_firstCells de.size (min m n) blk' off' m cap' _ htl fun j u hu => ?_
                  rw [List.getElem?_take] at hu
                  split at hu
                  · exact H.ok.known _ _ _ (v3 j u hu)
                  · cases hu
            have hst := run_storeCells_fr cx.P blk off e' _ (news.take (min m n * de.size)) 0 old w q1.choose_spec.1 q1.choose_spec.2 (by simpa using q2) (fun u hu => n3.2.2 u (List.mem_of_mem_take hu))
            simp only [Nat.add_zero] at hst
            have hmin : Nat.min m n = min m n := rfl
            have hrun : (Builtin.copy_ #[t, t2] o.type #[a.eval x, a.eval y]).run cx.P w = .ok (.int .i64 ((min m n : Nat) : Int)) (w.setRow blk (old.toList.take off ++ news.take (min m n * de.size) ++ old.toList.drop (off + (news.take (min m n * de.size)).length)).toArray) := by
              rw [hxv]
              simp only [Builtin.copy_, List.getElem?_toArray, List.getElem?_cons_zero, List.getElem?_cons_succ, Sem.run_bind, run_und hd, hu, Result.andThen_ok, n3.1, run_size he, hmin, hfc, hst, Sem.run_pure, goInt]
            refine OpOK.of_run (by rw [hex, hrun]; rfl) ⟨G, rep_val.2 rfl, by simp, w1, w2, w3⟩
          · cases hact
      · cases hp
    · cases hp
  · cases hp
theorem u8s?_spec : ∀ {xs : List C} {ns : List Int}, u8s? xs = some ns → xs = ns.map fun n => .val (.int .u8 n)
  | [], ns, h => by simp only [u8s?, Option.some.injEq] at h; subst h; rfl
  | c :: xs, ns, h => by
    unfold u8s? at h
    split at h
    · cases h; rename_i hh; cases hh
    · rename_i n r hh
      cases hh
      cases hr : u8s? xs with
      | none => rw [hr] at h; cases h
      | some l => rw [hr] at h; cases h; rw [u8s?_spec hr]; rfl
    · cases h
theorem vals_of_ints {xs : List C} {vs : List Value} {ns : List Int} (h : u8s? xs = some ns) (hr : RepL G xs vs) : vs = ns.map (.int .u8) := by
  rw [u8s?_spec h] at hr
  apply List.ext_getElem?
  intro i
  cases hi : ns[i]? with
  | none =>
    have hl := hr.length
    simp only [List.length_map] at hl
    rw [List.getElem?_map, hi]
    rw [List.getElem?_eq_none_iff] at hi
    simp; omega
  | some n =>
    obtain ⟨v, hv, hrv⟩ := hr.get i (.val (.int .u8 n)) (by rw [List.getElem?_map, hi]; rfl)
    rw [rep_val] at hrv
    rw [hv, List.getElem?_map, hi, hrv]; rfl
theorem conv_ok (H : Pre cx G w st a) {s d : TypeId} {x : Operand} {p : Plan} (ho : o.op = .convert s d x) {xc : C} (hx : Rep G xc.it (a.eval x)) (hp : convPlan cx.P s d xc.it = some p)
    {id : Nat} {c : C} {st' : St} (hact : act cx id p st = some (c, st')) (dp : Place) : OpOK cx.P o a G w st' dp c := by
  have hex : (execOp a.eval o).run cx.P w = ((convert s d (a.eval x)).run cx.P w).andThen fun v w' => .ok (.value v) w' := by
    simp only [execOp, ho, Sem.run_bind, Sem.run_pure]
  unfold convPlan at hp
  split at hp
  · rename_i ds dd hs hd
    split at hp
    · rename_i k k' n hdu hc
      cases hp
      simp only [act, actH, Plan.pure] at hact
      cases hact
      rw [hc, rep_val] at hx
      refine OpOK.pure H ?_ (rep_val.2 rfl) trivial
      rw [hex, hx]
      simp [convert, run_und hs, run_und hd, hdu, Conv.intToInt]
    · rename_i str hdu hc
      cases hp
      simp only [act, actH, Plan.pure] at hact
      cases hact
      rw [hc, rep_val] at hx
      refine OpOK.pure H ?_ (rep_val.2 rfl) trivial
      rw [hex, hx]
      simp [convert, run_und hs, run_und hd, hdu]
    · rename_i e str hsu hdu hc
      split at hp
      · rename_i de he
        split at hp
        · rename_i heu
          split at hp
          · rename_i hle
            cases hp
            simp only [act, actH, Plan.pure] at hact
            cases hact
            rw [hc, rep_val] at hx
            have hrun := run_bytes_of_string (P := cx.P) w s d e str (hsu ▸ (td_spec hs).1) (hdu ▸ (td_spec hd).1) (heu ▸ (td_spec he).1)
            obtain ⟨W, E⟩ := WorldOK.commit (w' := w.drew.alloc (.cells (bytesRow str (grownCap w str.size 0 e)) e ((bytesRow str (grownCap w str.size 0 e)).size, (bytesRow str (grownCap w str.size 0 e)).size + 1)))
              H.ok (str.data.toList.map fun b => .int .u8 b.toNat) none _ e _ rfl rfl rfl rfl (by
                intro j u hu
                unfold bytesRow
                rw [Array.getElem?_append_left]
                · simpa using hu
                · have := (List.getElem?_eq_some_iff.1 hu).1
                  simpa using this)
            have le := E.le H.ok
            have hml : maxLen = 9223372036854775807 := by decide
            refine OpOK.fresh H (by rw [hex, hx, hrun]; rfl) E W ?_ (by simp)
            simp only [Rep]
            refine ⟨_, _, rfl, grownCap_ge w str.size 0 e, grownCap_le_maxLen w str.size 0 e (by omega), by simp, .inr ⟨w.heap.size, 0, rfl, ?_⟩⟩
            refine repK_of (vs := str.data.toList.map fun b => .int .u8 b.toNat) ?_ ?_ ?_
            · refine RepL.of_get (by simp) fun i z v hz hv => ?_
              rw [List.getElem?_map] at hz hv
              cases hb : str.data.toList[i]? with
              | none => rw [hb] at hz; cases hz
              | some b => rw [hb] at hz hv; cases hz; cases hv; exact rep_val.2 rfl
            · intro u hu
              obtain ⟨b, _, rfl⟩ := List.mem_map.1 hu
              rfl
            · intro j u hu
              simp only [setT, Sx.commit, if_true, Nat.zero_add]
              exact hu
          · cases hp
        · cases hp
      · cases hp
    · rename_i e hsu hdu hc
      split at hp
      · rename_i de he
        split at hp
        · rename_i heu
          split at hp
          · rename_i b off n hcc
            cases hp
            simp only [act, actH] at hact
            cases hb : st.h.at b with
            | none => rw [hb] at hact; cases hact
            | some cells =>
              rw [hb] at hact
              simp only [Option.bind_some] at hact
              split at hact
              · rename_i hoff
                cases hu8 : u8s? ((cells.drop off).take n) with
                | none => rw [hu8] at hact; cases hact
                | some ns =>
                  rw [hu8] at hact
                  cases hact
                  rw [hcc] at hx
                  simp only [Rep] at hx
                  obtain ⟨ad, cap, hxv, hnc, hcm, had⟩ := hx
                  refine OpOK.pure H ?_ (rep_val.2 rfl) trivial
                  rw [hex, hxv]
                  by_cases hn0 : n = 0
                  · subst hn0
                    have : ns = [] := by simpa [u8s?] using hu8.symm
                    subst this
                    cases ad with
                    | none =>
                      rw [run_convert_bytes_nil (P := cx.P) w s e (hsu ▸ (td_spec hs).1) (heu ▸ (td_spec he).1) 0 cap d (hdu ▸ (td_spec hd).1)]; rfl
                    | some ad =>
                      rw [run_convert_bytes_string (P := cx.P) w s d e _ _ _ (hsu ▸ (td_spec hs).1) (heu ▸ (td_spec he).1) (hdu ▸ (td_spec hd).1),
                        run_bytesToString (P := cx.P) w ad 0 cap [] (by simp [loadCells, loadCellsFrom])]; rfl
                  · obtain ⟨blk, hμ, hadd⟩ := had hn0
                    rw [hadd]
                    obtain ⟨cs, e', q1, q2, q3, q4, q5, q6⟩ := box_cells H.ok hb hμ
                    have hvs := vals_of_ints hu8 ((q2.drop off).take n)
                    have hnl : ns.length = n := by
                      have h1 := congrArg List.length hvs
                      have h2 := q2.length
                      simp only [List.length_take] at h2
                      simp only [List.length_take, List.length_drop, List.length_map] at h1; omega
                    rw [run_convert_bytes_arg (P := cx.P) w s e (hsu ▸ (td_spec hs).1) (heu ▸ (td_spec he).1) blk off n cap ns hnl (fun i hi => ?_) d (hdu ▸ (td_spec hd).1)]
                    · rfl
                    · have hget : (((cs.toList.take cells.length).drop off).take n)[i]? = some (.int .u8 (ns.getD i 0)) := by
                        rw [hvs, List.getElem?_map]
                        have : i < ns.length := by omega
                        simp [List.getElem?_eq_getElem this, List.getD]
                      rw [List.getElem?_take, if_pos hi, List.getElem?_drop] at hget
                      exact q4 _ _ hget
              · cases hact
          · rename_i hnsv
            split at hp
            · rename_i n xs hsl
              split at hp
              · rename_i hlen
                cases hu8 : u8s? xs with
                | none => rw [hu8] at hp; cases hp
                | some ns =>
                  rw [hu8] at hp
                  cases hp
                  simp only [act, actH, Plan.pure] at hact
                  cases hact
                  obtain ⟨ad, cap, hxv, hnc, hcm, hk⟩ := sl?_rep hsl hx
                  refine OpOK.pure H ?_ (rep_val.2 rfl) trivial
                  rw [hex, hxv]
                  rcases hk with rfl | ⟨blk, off, rfl, hk⟩
                  · have : ns = [] := by simp only [u8s?, Option.some.injEq] at hu8; exact hu8.symm
                    subst this
                    have hn0 : n = 0 := by rw [← hlen]; rfl
                    subst hn0
                    cases ad with
                    | none =>
                      rw [run_convert_bytes_nil (P := cx.P) w s e (hsu ▸ (td_spec hs).1) (heu ▸ (td_spec he).1) 0 cap d (hdu ▸ (td_spec hd).1)]; rfl
                    | some ad =>
                      rw [run_convert_bytes_string (P := cx.P) w s d e _ _ _ (hsu ▸ (td_spec hs).1) (heu ▸ (td_spec he).1) (hdu ▸ (td_spec hd).1),
                        run_bytesToString (P := cx.P) w ad 0 cap [] (by simp [loadCells, loadCellsFrom])]; rfl
                  · obtain ⟨vs, v1, v2, v3, v4⟩ := hk.values
                    have hvs := vals_of_ints hu8 v2
                    have hnl : ns.length = n := by
                      have h1 := congrArg List.length hvs
                      simp only [List.length_map] at h1; omega
                    rw [run_convert_bytes_arg (P := cx.P) w s e (hsu ▸ (td_spec hs).1) (heu ▸ (td_spec he).1) blk off n cap ns hnl (fun i hi => ?_) d (hdu ▸ (td_spec hd).1)]
                    · rfl
                    · have hget : vs[i]? = some (.int .u8 (ns.getD i 0)) := by
                        rw [hvs, List.getElem?_map]
                        have : i < ns.length := by omega
                        simp [List.getElem?_eq_getElem this, List.getD]
                      exact H.ok.known _ _ _ (v3 i _ hget)
              · cases hp
            · cases hp
        · cases hp
      · cases hp
    · cases hp
  · cases hp
end
end Go.Sx
