/-
   And what follows.
-/
import Derived.Test.YtcpdlhgkdogdjaaDoorPaa
set_option linter.unusedSimpArgs false
set_option linter.unusedVariables false
namespace Go.Sx
open Go.RowKit
structure Ext (G : Gh) (w : World) (G' : Gh) (w' : World) : Prop where
  os : w'.os = w.os
  tape : w'.tape = w.tape
  output : w'.output = w.output
  size : w.heap.size ≤ w'.heap.size
  heap : ∀ g,g < w.heap.size → w'.heap[g]? = w.heap[g]?
  K : ∀ g,g < w.heap.size → ∀ o,G'.K g o = G.K g o
  T : ∀ g,g < w.heap.size → G'.T g = G.T g
  μ : ∀ b,G'.μ b = G.μ b ∨ (G.μ b = none ∧ ∃ k,w.heap.size ≤ k ∧ G'.μ b = some k)
  σ : ∀ b z,G.σ b = some z → G'.σ b = some z
def EnvOK (G : Gh) (w : World) (env : Nat → C) (f : Nat → Value) : Prop :=
  (∀ t,Rep G (env t) (f t)) ∧ ∀ t s n xs,env t = .sl (.own s) n xs → OwnRow G w (0,t,0) (f t) s n
theorem World.heap_new (w : World) (o : Obj) : (w.alloc o).heap[w.heap.size]? = some o := by
  show (w.heap.push o)[w.heap.size]? = some o
  simp
theorem World.heap_old (w : World) (o : Obj) (i : Nat) (h : i < w.heap.size) : (w.alloc o).heap[i]? = w.heap[i]? := by
  show (w.heap.push o)[i]? = w.heap[i]?
  rw [Array.getElem?_push,if_neg (by omega)]
section
variable {G G' : Gh} {h h' : Hp} {w w' : World}
theorem WorldOK.klt (H : WorldOK G h w) {g o : Nat} {u : Value} (hk : G.K g o = some u) : g < w.heap.size :=
  block_lt_of_cell (H.known g o u hk)
theorem WorldOK.knone (H : WorldOK G h w) {g : Nat} (hg : w.heap.size ≤ g) (o : Nat) : G.K g o = none := by
  cases hk : G.K g o with
  | none => rfl
  | some u => have := H.klt hk; omega
theorem WorldOK.tnone (H : WorldOK G h w) {g : Nat} (hg : w.heap.size ≤ g) : G.T g = none := by
  cases hk : G.T g with
  | none => rfl
  | some u => have := H.tlt g u hk; omega
theorem WorldOK.μlt (H : WorldOK G h w) {b blk : Nat} (hb : G.μ b = some blk) : blk < w.heap.size := (H.dom b blk hb).2
theorem WorldOK.bx (H : WorldOK G h w) {b blk : Nat} {cells : List C} (hb : h.at b = some cells) (hm : G.μ b = some blk) :
    ∃ cs e,RowIs w.heap[blk]? cs e ∧ cells.length ≤ cs.size ∧ RepL G cells (cs.toList.take cells.length) ∧ ∀ v ∈ cs.toList,v.oneCell' = true := by
  rcases H.box b cells hb with ⟨_,hE⟩ | ⟨blk',cs,e,q1,q2,q3,q4,q5⟩
  · rw [hm] at hE; cases hE
  · rw [hm] at q1; cases q1; exact ⟨cs,e,q2,q3,q4,q5⟩
theorem Ext.le (E : Ext G w G' w') (H : WorldOK G h w) : G.Le G' :=
  ⟨fun b o u hk => by rw [E.K b (H.klt hk)]; exact hk,fun b k hk => by
    rcases E.μ b with e | ⟨e,_⟩
    · rw [e]; exact hk
    · rw [e] at hk; exact absurd hk (by simp),fun b k hk => E.σ b k hk⟩
theorem Ext.μold (E : Ext G w G' w') {g b : Nat} (hg : g < w.heap.size) (hm : G.μ b ≠ some g) : G'.μ b ≠ some g := by
  rcases E.μ b with e | ⟨_,k,hk,e⟩
  · rw [e]; exact hm
  · rw [e]; intro h; cases h; omega
theorem Ext.frm (E : Ext G w G' w') (H : WorldOK G h w) : Frm G w G' w' :=
  ⟨E.os,E.tape,E.output,E.size,E.le H,fun g hg ht hm => ⟨E.heap g hg,by rw [E.T g hg]; exact ht,fun b => E.μold hg (hm b),fun o => E.K g hg o⟩⟩
theorem Ext.cell (E : Ext G w G' w') {a : Addr} (ha : a.block < w.heap.size) : w'.cell? a = w.cell? a := World.cell?_of_block (E.heap a.block ha)
theorem Ext.own (E : Ext G w G' w') (H : WorldOK G h w) {p : Place} {v : Value} {s n : Nat} (O : OwnRow G w p v s n) : OwnRow G' w' p v s n := by
  rcases O with O | ⟨g,cap,cur,e,hv,ht,hg,hs,hk,hm⟩
  · exact .inl O
  · have hlt := H.tlt g p ht
    refine .inr ⟨g,cap,cur,e,hv,by rw [E.T g hlt]; exact ht,by rw [E.heap g hlt]; exact hg,hs,fun o ho => by rw [E.K g hlt]; exact hk o ho,fun b => E.μold hlt (hm b)⟩
theorem Ext.env (E : Ext G w G' w') (H : WorldOK G h w) {env : Nat → C} {f : Nat → Value} (O : EnvOK G w env f) : EnvOK G' w' env f :=
  ⟨fun t => (O.1 t).mono (E.le H),fun t s n xs he => E.own H (O.2 t s n xs he)⟩
def commit (G : Gh) (b : Nat) (vs : List Value) : Gh := { G with K := fun g o => if g = b then vs[o]? else G.K g o }
def setT (G : Gh) (b : Nat) (p : Option Place) : Gh := { G with T := fun g => if g = b then p else G.T g }
theorem WorldOK.mpoT {G G' : Gh} {h h' : Hp} {w w' : World} (H : WorldOK G h w) (hm : ∀ b l,h'.mp b = some l → h.mp b = some l) (hh : ∀ (blk : Nat) es clk,w.heap[blk]? = some (Obj.map es clk) → w'.heap[blk]? = some (Obj.map es clk)) (le : G.Le G') :
    ∀ b l,h'.mp b = some l → ∃ blk es clk,G'.μ b = some blk ∧ w'.heap[blk]? = some (Obj.map es clk) ∧ MRep G' l es.toList := fun b l hb => by
  obtain ⟨blk,es,clk,h1,h2,h3⟩ := H.mpo b l (hm b l hb)
  exact ⟨blk,es,clk,le.μ _ _ h1,hh _ _ _ h2,h3.mono le⟩
theorem WorldOK.mpiT {G G' : Gh} {h h' : Hp} {w : World} (H : WorldOK G h w) (hm : ∀ b l,h'.mp b = some l → h.mp b = some l) (hμ : ∀ b l blk,h'.mp b = some l → G'.μ b = some blk → G.μ b = some blk) :
    ∀ b b' l l' blk,h'.mp b = some l → h'.mp b' = some l' → G'.μ b = some blk → G'.μ b' = some blk → b = b' := fun b b' l l' blk x x' y y' =>
  H.mpi b b' l l' blk (hm b l x) (hm b' l' x') (hμ b l blk x y) (hμ b' l' blk x' y')
theorem mp_setN {h : Hp} {b : Nat} {o : Option (List C)} (hb : b < h.length) (ho : mpL o = none) : ∀ k l,Hp.mp (h.set b o) k = some l → k ≠ b ∧ h.mp k = some l := fun k l hk => by
  rw [Hp.mp_set hb] at hk
  split at hk
  · rw [ho] at hk; cases hk
  · rename_i e; exact ⟨e,hk⟩
theorem map_old {w w' : World} (hs : ∀ g,g < w.heap.size → w'.heap[g]? = w.heap[g]?) : ∀ (blk : Nat) es clk,w.heap[blk]? = some (Obj.map es clk) → w'.heap[blk]? = some (Obj.map es clk) := fun blk es clk hb => by
  rw [hs blk (by have := (Array.getElem?_eq_some_iff.1 hb).1; exact this)]; exact hb
theorem Ext.commit {G : Gh} {w w' : World} (vs : List Value) (p : Option Place) (hos : w'.os = w.os) (ht : w'.tape = w.tape) (ho : w'.output = w.output)
    (hh : ∃ ob,w'.heap = w.heap.push ob) : Ext G w (setT (Sx.commit G w.heap.size vs) w.heap.size p) w' := by
  obtain ⟨ob,hh⟩ := hh
  refine ⟨hos,ht,ho,by rw [hh]; simp,fun g hg => by rw [hh,Array.getElem?_push,if_neg (by omega)],fun g hg o => ?_,fun g hg => ?_,fun b => .inl rfl,?_⟩
  · simp only [setT,Sx.commit]; rw [if_neg (by omega)]
  · simp only [setT]; rw [if_neg (by omega)]; rfl
  · exact fun _ _ x => x
theorem WorldOK.commit (H : WorldOK G h w) (vs : List Value) (p : Option Place) (cs : Array Value) (e : TypeId) (fr : Nat × Nat) (hos : w'.os = w.os) (ht : w'.tape = w.tape) (ho : w'.output = w.output)
    (hh : w'.heap = w.heap.push (.cells cs e fr)) (hv : ∀ (j : Nat) (u : Value),vs[j]? = some u → cs[j]? = some u) :
    WorldOK (setT (Sx.commit G w.heap.size vs) w.heap.size p) h w' ∧ Ext G w (setT (Sx.commit G w.heap.size vs) w.heap.size p) w' := by
  have E : Ext G w (setT (Sx.commit G w.heap.size vs) w.heap.size p) w' := Ext.commit vs p hos ht ho ⟨_,hh⟩
  have hnew : w'.heap[w.heap.size]? = some (.cells cs e fr) := by rw [hh]; simp
  refine ⟨⟨?_,?_,fun b blk hb => ⟨(H.dom b blk hb).1,Nat.lt_of_lt_of_le (H.dom b blk hb).2 E.size⟩,H.inj,?_,?_,?_,?_,H.mpoT (fun _ _ x => x) (map_old E.heap) (E.le H),H.mpiT (fun _ _ x => x) (fun _ _ _ _ x => x)⟩,E⟩
  · intro blk off u hk
    simp only [setT,Sx.commit] at hk
    split at hk
    · rename_i hb
      subst hb
      simp only [World.cell?,hnew]
      simpa using hv off u hk
    · rw [E.cell (H.klt hk)]
      exact H.known blk off u hk
  · intro b cells hb
    rcases H.box b cells hb with hE | ⟨blk,cs',e',h1,h2,h0,h3,h4⟩
    · exact .inl hE
    · exact .inr ⟨blk,cs',e',h1,by rw [E.heap blk (H.μlt h1)]; exact h2,h0,h3.mono (E.le H),h4⟩
  · intro b blk hb
    have hlt := H.μlt hb
    obtain ⟨h1,h2⟩ := H.sep b blk hb
    exact ⟨fun o => by rw [E.K blk hlt]; exact h1 o,by rw [E.T blk hlt]; exact h2⟩
  · intro g q hg
    simp only [setT] at hg
    split at hg
    · subst_vars; rw [hh]; simp
    · have := H.tlt g q hg; rw [hh]; simp; omega
  · intro b cells off s n xs blk v hb hc hm hv'
    have hlt := H.μlt hm
    rw [E.cell hlt] at hv'
    exact E.own H (H.own b cells off s n xs blk v hb hc hm hv')
  · intro b z hz
    obtain ⟨blk,cs',e',fr',h1,h2,h3⟩ := H.siz b z hz
    exact ⟨blk,cs',e',fr',h1,by rw [E.heap blk (H.μlt h1)]; exact h2,h3⟩
theorem WorldOK.same (H : WorldOK G h w) (hh : w'.heap = w.heap) : WorldOK G h w' := by
  have hc : ∀ a,w'.cell? a = w.cell? a := fun a => by simp only [World.cell?,hh]
  refine ⟨fun b o u hk => by rw [hc]; exact H.known b o u hk,fun b c hb => by rw [hh]; exact H.box b c hb,fun b blk hb => by rw [hh]; exact H.dom b blk hb,H.inj,H.sep,fun g p hg => by rw [hh]; exact H.tlt g p hg,?_,fun b z hz => by rw [hh]; exact H.siz b z hz,fun b l hb => by rw [hh]; exact H.mpo b l hb,H.mpi⟩
  intro b cells off s n xs blk v hb hx hm hv
  rw [hc] at hv
  rcases H.own b cells off s n xs blk v hb hx hm hv with O | ⟨g,cap,cur,e,q1,q2,q3,q4⟩
  · exact .inl O
  · exact .inr ⟨g,cap,cur,e,q1,q2,by rw [hh]; exact q3,q4⟩
theorem Ext.same (hos : w'.os = w.os) (ht : w'.tape = w.tape) (ho : w'.output = w.output) (hh : w'.heap = w.heap) : Ext G w G w' :=
  ⟨hos,ht,ho,by rw [hh]; exact Nat.le_refl _,fun g _ => by rw [hh],fun _ _ _ => rfl,fun _ _ => rfl,fun _ => .inl rfl,fun _ _ x => x⟩
theorem Hp.at_some {h : Hp} {b : Nat} {cells : List C} (hb : h.at b = some cells) : h[b]? = some (some cells) := by
  unfold Hp.at at hb
  cases hq : h[b]? with
  | none => rw [hq] at hb; cases hb
  | some o => rw [hq] at hb; rw [liveC_some hb]
theorem Hp.at_lt {h : Hp} {b : Nat} {cells : List C} (hb : h.at b = some cells) : b < h.length := (List.getElem?_eq_some_iff.1 (Hp.at_some hb)).1
theorem Hp.at_set {h : Hp} {b : Nat} (hb : b < h.length) (cells : List C) (b' : Nat) : Hp.at (h.set b (some cells)) b' = if b' = b then liveC (some cells) else h.at b' := by
  unfold Hp.at
  rw [List.getElem?_set]
  split
  · rename_i e
    subst e
    simp [hb]
  · rename_i e
    rw [if_neg (Ne.symm e)]
def setμ (G : Gh) (b blk : Nat) (z : Nat × Nat) : Gh := { G with μ := fun b' => if b' = b then some blk else G.μ b',σ := fun b' => if b' = b then some z else G.σ b' }
theorem WorldOK.newBox (H : WorldOK G h w) (id : Nat) (hid : h[id]? = some none) (cells : List C) (vs : Array Value) (e : TypeId) (hw : w' = w.alloc (.cells vs e))
    (hr : RepL G cells vs.toList) (h1 : ∀ v ∈ vs.toList,v.oneCell' = true) (hno : ∀ (off s n : Nat) (xs : List C),cells[off]? ≠ some (C.sl (.own s) n xs)) :
    WorldOK (setμ G id w.heap.size (vs.size,e)) (h.set id (some cells)) w' ∧ Ext G w (setμ G id w.heap.size (vs.size,e)) w' := by
  subst hw
  have hlen : id < h.length := (List.getElem?_eq_some_iff.1 hid).1
  have hμ0 : G.μ id = none := by
    cases hm : G.μ id with
    | none => rfl
    | some k => obtain ⟨⟨c,hc⟩,_⟩ := H.dom id k hm; rw [hid] at hc; cases hc
  have E : Ext G w (setμ G id w.heap.size (vs.size,e)) (w.alloc (.cells vs e)) := by
    refine ⟨rfl,rfl,rfl,by simp,fun g hg => World.heap_old w _ g hg,fun _ _ _ => rfl,fun _ _ => rfl,fun b => ?_,fun b z x => ?_⟩
    rotate_left
    · have hbi : b ≠ id := fun e => by
        obtain ⟨k,_,_,_,q,_⟩ := H.siz b z x
        rw [e,hμ0] at q; cases q
      simp only [setμ,hbi,if_false]; exact x
    simp only [setμ]
    by_cases hb : b = id
    · subst hb; exact .inr ⟨hμ0,w.heap.size,Nat.le_refl _,by simp⟩
    · exact .inl (by simp [hb])
  have hmp := mp_setN (o := some cells) hlen (mpL_one hr h1)
  refine ⟨⟨?_,?_,?_,?_,?_,?_,?_,?_,H.mpoT (fun b l x => (hmp b l x).2) (map_old E.heap) (E.le H),H.mpiT (fun b l x => (hmp b l x).2) (fun b l blk x y => by simp only [setμ] at y; rw [if_neg (hmp b l x).1] at y; exact y)⟩,E⟩
  · intro blk off u hk
    have hk' : G.K blk off = some u := hk
    rw [E.cell (H.klt hk')]
    exact H.known blk off u hk'
  · intro b cs hb
    rw [Hp.at_set hlen] at hb
    by_cases hbi : b = id
    · subst hbi
      rw [if_pos rfl] at hb
      have hb' := liveC_some hb
      simp only [Option.some.injEq] at hb'
      subst hb'
      have hl : cells.length = vs.toList.length := hr.length
      refine .inr ⟨w.heap.size,vs,e,by simp [setμ],by rw [World.heap_new w _]; exact .of,by rw [hl]; simp,?_,h1⟩
      rw [hl,List.take_length]
      exact hr.mono (E.le H)
    · rw [if_neg hbi] at hb
      rcases H.box b cs hb with ⟨hE,hE2⟩ | ⟨blk,cs',e',q1,q2,q0,q3,q4⟩
      · exact .inl ⟨hE,by simp [setμ,hbi,hE2]⟩
      · exact .inr ⟨blk,cs',e',by simp [setμ,hbi,q1],by rw [World.heap_old w _ blk (H.μlt q1)]; exact q2,q0,q3.mono (E.le H),q4⟩
  · intro b blk hb
    rw [List.getElem?_set]
    by_cases hbi : b = id
    · subst hbi
      simp only [setμ,if_true,Option.some.injEq] at hb
      subst hb
      exact ⟨⟨cells,by rw [if_pos rfl,if_pos hlen]⟩,by simp⟩
    · simp only [setμ,hbi,if_false] at hb
      obtain ⟨⟨c,hc⟩,hl⟩ := H.dom b blk hb
      exact ⟨⟨c,by rw [if_neg (Ne.symm hbi)]; exact hc⟩,Nat.lt_of_lt_of_le hl E.size⟩
  · intro b b' c c' blk ha ha' hb hb'
    rw [Hp.at_set hlen] at ha ha'
    simp only [setμ] at hb hb'
    split at hb <;> split at hb'
    · omega
    · simp only [Option.some.injEq] at hb; have := H.μlt hb'; omega
    · simp only [Option.some.injEq] at hb'; have := H.μlt hb; omega
    · rename_i n1 n2
      rw [if_neg n1] at ha
      rw [if_neg n2] at ha'
      exact H.inj b b' c c' blk ha ha' hb hb'
  · intro b blk hb
    simp only [setμ] at hb
    split at hb
    · simp only [Option.some.injEq] at hb
      subst hb
      exact ⟨fun o => H.knone (Nat.le_refl _) o,H.tnone (Nat.le_refl _)⟩
    · exact H.sep b blk hb
  · intro g p hg
    have := H.tlt g p hg
    simp; omega
  · intro b cs off s n xs blk v hb hc hm hv
    rw [Hp.at_set hlen] at hb
    by_cases hbi : b = id
    · rw [if_pos hbi] at hb
      have hb' := liveC_some hb
      simp only [Option.some.injEq] at hb'
      subst hb'
      exact absurd hc (hno off s n xs)
    · rw [if_neg hbi] at hb
      simp only [setμ,hbi,if_false] at hm
      have hlt := H.μlt hm
      rw [E.cell hlt] at hv
      exact E.own H (H.own b cs off s n xs blk v hb hc hm hv)
  · intro b z hz
    by_cases hbi : b = id
    · subst hbi
      simp only [setμ,if_true,Option.some.injEq] at hz
      subst hz
      exact ⟨w.heap.size,vs,e,(0,0),by simp [setμ],by rw [World.heap_new w _],rfl,rfl⟩
    simp only [setμ,hbi,if_false] at hz
    obtain ⟨blk,cs',e',fr',q1,q2,q3⟩ := H.siz b z hz
    exact ⟨blk,cs',e',fr',by simp [setμ,hbi,q1],by rw [World.heap_old w _ blk (H.μlt q1)]; exact q2,q3⟩
theorem WorldOK.setBox (H : WorldOK G h w) (b blk : Nat) (hb : G.μ b = some blk) {cells0 : List C} (hc0 : h.at b = some cells0) (cells : List C) (vs : Array Value) (hg : G' = { G with T := G'.T })
    (hw : w' = w.setRow blk vs) (hsz : ∀ cs e fr,w.heap[blk]? = some (.cells cs e fr) → vs.size = cs.size)
    (hl : cells.length ≤ vs.size) (hr : RepL G cells (vs.toList.take cells.length)) (h1 : ∀ v ∈ vs.toList,v.oneCell' = true)
    (hT : ∀ g,G'.T g = none ↔ G.T g = none) (hTo : ∀ g b' o,b' ≠ b → (G.T g = some (1,b',o) → G'.T g = some (1,b',o)))
    (hown : ∀ (off s n : Nat) (xs : List C) (v : Value),cells[off]? = some (C.sl (.own s) n xs) → vs[off]? = some v → OwnRow G' w (1,b,off) v s n) :
    WorldOK G' (h.set b (some cells)) w' := by
  obtain ⟨cs0,e,fr,q2,hfr⟩ : ∃ cs0 e,RowIs w.heap[blk]? cs0 e := by
    rcases H.box b cells0 hc0 with ⟨_,hE⟩ | ⟨blk',cs0,e,q1,q2,_⟩
    · rw [hb] at hE; cases hE
    · rw [hb] at q1; cases q1; exact ⟨cs0,e,q2⟩
  have hlen : b < h.length := Hp.at_lt hc0
  have hK : G'.K = G.K := by rw [hg]
  have hμ : G'.μ = G.μ := by rw [hg]
  have hσ : G'.σ = G.σ := by rw [hg]
  have le : G.Le G' := ⟨fun _ _ _ x => by rw [hK]; exact x,fun _ _ x => by rw [hμ]; exact x,fun _ _ x => by rw [hσ]; exact x⟩
  have hblk : w'.heap[blk]? = some (.cells vs e fr) := by rw [hw]; exact setRow_heap w blk cs0 vs e fr q2
  have hvc : vs.size = cs0.size := hsz _ _ _ q2
  have hoth : ∀ g,g ≠ blk → w'.heap[g]? = w.heap[g]? := fun g hne => by rw [hw]; exact setRow_other w blk g vs hne
  have hsize : w'.heap.size = w.heap.size := by rw [hw]; simp
  have mv : ∀ {p : Place} {v : Value} {s n : Nat},OwnRow G' w p v s n → OwnRow G' w' p v s n := by
    intro p v s n O
    rcases O with O | ⟨g,cap,cur,e',a1,a2,a3,a4,a5,a6⟩
    · exact .inl O
    · have hne : g ≠ blk := fun e => a6 b (by rw [hμ,hb,e])
      exact .inr ⟨g,cap,cur,e',a1,a2,by rw [hoth g hne]; exact a3,a4,a5,a6⟩
  have hmp := mp_setN (o := some cells) hlen (mpL_one hr fun v hv => h1 v (List.mem_of_mem_take hv))
  refine ⟨?_,?_,?_,?_,?_,?_,?_,?_,H.mpoT (fun b l x => (hmp b l x).2) (fun k es clk hk => by rw [hoth k (fun e => by rw [e,q2] at hk; cases hk)]; exact hk) le,H.mpiT (fun b l x => (hmp b l x).2) (fun b l k x y => by rw [hμ] at y; exact y)⟩
  · intro g off u hk
    rw [hK] at hk
    have hne : g ≠ blk := fun e => by rw [e,(H.sep b blk hb).1 off] at hk; cases hk
    have := H.known g off u hk
    rw [← this]
    exact World.cell?_of_block (hoth g hne)
  · intro b' cs hb'
    rw [Hp.at_set hlen] at hb'
    by_cases hbi : b' = b
    · subst hbi
      rw [if_pos rfl] at hb'
      have hb'' := liveC_some hb'
      simp only [Option.some.injEq] at hb''
      subst hb''
      exact .inr ⟨blk,vs,e,by rw [hμ]; exact hb,⟨fr,hblk,by rw [hvc]; exact hfr⟩,hl,hr.mono le,h1⟩
    · rw [if_neg hbi] at hb'
      rcases H.box b' cs hb' with ⟨hE,hE2⟩ | ⟨blk2,cs',e',r1,r2,r0,r3,r4⟩
      · exact .inl ⟨hE,by rw [hμ]; exact hE2⟩
      · have hne : blk2 ≠ blk := fun e => hbi (H.inj b' b _ _ blk hb' hc0 (e ▸ r1) hb)
        exact .inr ⟨blk2,cs',e',by rw [hμ]; exact r1,by rw [hoth blk2 hne]; exact r2,r0,r3.mono le,r4⟩
  · intro b' blk' hm
    rw [hμ] at hm
    rw [List.getElem?_set,hsize]
    obtain ⟨⟨c,hc⟩,hl'⟩ := H.dom b' blk' hm
    by_cases hbi : b' = b
    · subst hbi
      exact ⟨⟨cells,by rw [if_pos rfl,if_pos hlen]⟩,hl'⟩
    · exact ⟨⟨c,by rw [if_neg (Ne.symm hbi)]; exact hc⟩,hl'⟩
  · intro b1 b2 c1 c2 k ha1 ha2
    rw [hμ]
    rw [Hp.at_set hlen] at ha1 ha2
    have f : ∀ (x : Nat) (c : List C),(if x = b then liveC (some cells) else h.at x) = some c → ∃ c',h.at x = some c' := fun x c hx => by
      split at hx
      · rename_i e'; subst e'; exact ⟨_,hc0⟩
      · exact ⟨_,hx⟩
    obtain ⟨d1,hd1⟩ := f b1 c1 ha1
    obtain ⟨d2,hd2⟩ := f b2 c2 ha2
    exact H.inj b1 b2 d1 d2 k hd1 hd2
  · intro b' k hm
    rw [hμ] at hm
    obtain ⟨s1,s2⟩ := H.sep b' k hm
    exact ⟨fun o => by rw [hK]; exact s1 o,(hT k).2 s2⟩
  · intro g p hgp
    have : G.T g ≠ none := fun e => by rw [(hT g).2 e] at hgp; cases hgp
    obtain ⟨q,hq⟩ := Option.ne_none_iff_exists'.1 this
    have := H.tlt g q hq
    rw [hsize]; exact this
  · intro b' cs off s n xs k v hb' hc hm hv
    rw [Hp.at_set hlen] at hb'
    rw [hμ] at hm
    by_cases hbi : b' = b
    · subst hbi
      rw [if_pos rfl] at hb'
      have hb'' := liveC_some hb'
      simp only [Option.some.injEq] at hb''
      subst hb''
      rw [hb] at hm
      cases hm
      have hv2 : vs[off]? = some v := by
        have : w'.cell? ⟨blk,off,none⟩ = vs[off]? := by simp [World.cell?,hblk]
        rw [← this]; exact hv
      exact mv (hown off s n xs v hc hv2)
    · rw [if_neg hbi] at hb'
      have hne : k ≠ blk := fun e => hbi (H.inj b' b _ _ blk hb' hc0 (e ▸ hm) hb)
      have hv2 : w.cell? ⟨k,off,none⟩ = some v := by rw [← hv]; exact (World.cell?_of_block (hoth k hne)).symm
      refine mv ?_
      rcases H.own b' cs off s n xs k v hb' hc hm hv2 with O | ⟨g,cap,cur,e',a1,a2,a3,a4,a5,a6⟩
      · exact .inl O
      · exact .inr ⟨g,cap,cur,e',a1,hTo g b' off hbi a2,a3,a4,by rw [hK]; exact a5,by rw [hμ]; exact a6⟩
  · intro b' z hz
    rw [hσ] at hz
    obtain ⟨k,cs',e',fr',r1,r2,r3⟩ := H.siz b' z hz
    rw [hμ]
    by_cases hk : k = blk
    · subst hk
      exact ⟨k,vs,e,fr,r1,hblk,(hsz _ _ _ r2).trans r3.1,by rw [q2] at r2; cases r2; exact r3.2⟩
    · exact ⟨k,cs',e',fr',r1,by rw [hoth k hk]; exact r2,r3⟩
end
end Go.Sx
namespace Go.Sx
open Go.RowKit
theorem td_spec {P : Program} {t : TypeId} {d : TD} (h : td P t = some d) : P.underlying t = some d.u ∧ ∃ i z,P.info? t = some i ∧ i.size = d.size ∧ i.bytes = d.bytes ∧ i.zero = some z ∧ z.cells.toList = d.zero := by
  unfold td at h
  split at h
  · rename_i u i hu hi
    split at h
    · rename_i z hz
      simp only [Option.some.injEq] at h
      subst h
      exact ⟨hu,i,z,hi,rfl,rfl,hz,rfl⟩
    · cases h
  · cases h
theorem run_size {P : Program} {t : TypeId} {d : TD} (h : td P t = some d) (w : World) : (sizeOf t).run P w = .ok d.size w := by
  obtain ⟨_,i,z,hi,hs,_⟩ := td_spec h
  simp [sizeOf,typeInfo,hi,hs]
theorem run_und {P : Program} {t : TypeId} {d : TD} (h : td P t = some d) (w : World) : (underlying t).run P w = .ok d.u w := run_underlying (td_spec h).1 w
structure Out (G : Gh) (w : World) (st' : St) (f : Nat → Value) (d : Place) (c : C) (v : Value) (G' : Gh) (w' : World) : Prop where
  rep : Rep G' c v
  own : ∀ s n xs,c = .sl (.own s) n xs → OwnRow G' w' d v s n
  ok : WorldOK G' st'.h w'
  env : EnvOK G' w' st'.env f
  frm : Frm G w G' w'
def av (a : Act) (t : Nat) : Value := a.tmps.getD t undef
def wF (r : Option Nat) : Fence := { Fence.wide with round := r }
def OpOK (P : Program) (o : Oper) (a : Act) (G : Gh) (w : World) (st' : St) (d : Place) (c : C) : Prop :=
  ∀ (r : Option Nat) (K : Act → World → Prop) (Q : Exit → Act → World → Prop),(∀ v G' w',Out G w st' (av a) d c v G' w' → K (a.put o.dst v) w') → o.wpIn (wF r) 0 P a w K Q
theorem semAt_ok {o : Oper} {a : Act} {P : Program} {w w' : World} {x : Next} (hx : ∀ d,x ≠ .defer d) (hrun : (execOp a.eval o).run P w = .ok x w') (r : Option Nat) : (o.semAt r a.eval).run P w = .ok x w' := by
  rw [Oper.semAt_eq r _ _ ?_,hrun]
  intro c e
  unfold execOp at hrun
  rw [e] at hrun
  simp only [Sem.run_bind] at hrun
  cases hq : Sem.run P (resolve a.eval c o.type) w with
  | ok d w1 =>
    rw [hq] at hrun
    simp only [Result.andThen_ok,Sem.run_pure,Result.ok.injEq] at hrun
    exact hx _ hrun.1.symm
  | halt h w1 =>
    rw [hq] at hrun
    cases hrun
structure Pre (cx : Cx) (G : Gh) (w : World) (st : St) (a : Act) : Prop where
  ok : WorldOK G st.h w
  env : EnvOK G w st.env (av a)
  glob : ∀ g,Rep G (cx.gl g) (.pointer (some ⟨g,0,none⟩))
section
variable {cx : Cx} {G : Gh} {w : World} {st : St} {a : Act} {o : Oper}
theorem Pre.ev (H : Pre cx G w st a) (x : Operand) : Rep G (cx.ev st.env x) (a.eval x) := by
  cases x with
  | tmp t => exact H.env.1 t
  | const v => simp [Cx.ev,Act.eval,Rep]
  | global g => exact (H.glob g).noR
  | func f => simp only [Cx.ev,Act.eval,Rep]; exact ⟨#[],rfl,by simp [RepL]⟩
theorem Pre.evn (H : Pre cx G w st a) (x : Operand) : Rep G (cx.evn st.env x) (a.eval x) := (H.ev x).noR
theorem OpOK.of_run {v : Value} {w' : World} {st' : St} {d : Place} {c : C} (hrun : (execOp a.eval o).run cx.P w = .ok (.value v) w') (h : ∃ G',Out G w st' (av a) d c v G' w') :
    OpOK cx.P o a G w st' d c := by
  intro r K Q hK
  refine ⟨fun _ _ => trivial,?_⟩
  rw [show (wF r).round = r from rfl,semAt_ok (fun d e => by cases e) hrun]
  obtain ⟨G',hG⟩ := h
  exact hK v G' w' hG
theorem OpOK.of_skip {w' : World} {st' : St} {d : Place} {c : C} (hrun : (execOp a.eval o).run cx.P w = .ok .skip w') (h : ∃ G',Out G w st' (av a) d c undef G' w') :
    OpOK cx.P o a G w st' d c := by
  intro r K Q hK
  refine ⟨fun _ _ => trivial,?_⟩
  rw [show (wF r).round = r from rfl,semAt_ok (fun d e => by cases e) hrun]
  obtain ⟨G',hG⟩ := h
  exact hK undef G' w' hG
def C.noOwn : C → Prop
  | .sl (.own _) _ _ => False
  | _ => True
theorem noOwn_noR (c : C) : c.noR.noOwn := by
  unfold C.noR
  split
  · simp [C.noOwn]
  · rename_i h
    cases c with
    | sl r n xs => cases r with
      | own s => exact absurd rfl (h s n xs)
      | no => trivial
      | full => trivial
    | _ => trivial
theorem OpOK.pure (H : Pre cx G w st a) {v : Value} {d : Place} {c : C} (hrun : (execOp a.eval o).run cx.P w = .ok (.value v) w) (hr : Rep G c v) (hn : c.noOwn) :
    OpOK cx.P o a G w st d c :=
  OpOK.of_run hrun ⟨G,hr,fun s n xs e => by rw [e] at hn; exact hn.elim,H.ok,H.env,Frm.refl G w⟩
theorem OpOK.fresh (H : Pre cx G w st a) {v : Value} {d : Place} {c : C} {G' : Gh} {w' : World} (hrun : (execOp a.eval o).run cx.P w = .ok (.value v) w') (E : Ext G w G' w') (hok : WorldOK G' st.h w')
    (hr : Rep G' c v) (hn : ∀ s n xs,c = .sl (.own s) n xs → OwnRow G' w' d v s n) :
    OpOK cx.P o a G w st d c :=
  OpOK.of_run hrun ⟨G',hr,hn,hok,E.env H.ok H.env,E.frm H.ok⟩
theorem retag_ok (H : WorldOK G st.h w) {g p : Nat} {q : Place} (hg : G.T g = some (0,p,0)) : WorldOK (setT G g (some q)) st.h w := by
  have hlt := H.tlt g _ hg
  have le : G.Le (setT G g (some q)) := ⟨fun _ _ _ x => x,fun _ _ x => x,fun _ _ x => x⟩
  refine ⟨H.known,?_,H.dom,H.inj,?_,?_,?_,H.siz,H.mpoT (fun _ _ x => x) (fun _ _ _ x => x) le,H.mpi⟩
  · intro b cells hb
    rcases H.box b cells hb with hE | ⟨blk,cs,e,h1,h2,h0,h3,h4⟩
    · exact .inl hE
    · exact .inr ⟨blk,cs,e,h1,h2,h0,h3.mono le,h4⟩
  · intro b blk hb
    obtain ⟨h1,h2⟩ := H.sep b blk hb
    refine ⟨h1,?_⟩
    simp only [setT]
    split
    · rename_i e; subst e; rw [hg] at h2; cases h2
    · exact h2
  · intro k r hk
    simp only [setT] at hk
    split at hk
    · subst_vars; exact hlt
    · exact H.tlt k r hk
  · intro b cells off s n xs blk v hb hc hm hv
    rcases H.own b cells off s n xs blk v hb hc hm hv with O | ⟨k,cap,cur,e,a1,a2,a3,a4,a5,a6⟩
    · exact .inl O
    · have hne : k ≠ g := fun e => by rw [e,hg] at a2; cases a2
      exact .inr ⟨k,cap,cur,e,a1,by simp only [setT]; rw [if_neg hne]; exact a2,a3,a4,a5,a6⟩
theorem frm_retag {g : Nat} {p : Place} {q : Place} (hg : G.T g = some p) : Frm G w (setT G g (some q)) w :=
  ⟨rfl,rfl,rfl,Nat.le_refl _,⟨fun _ _ _ x => x,fun _ _ x => x,fun _ _ x => x⟩,fun k _ ht hm => ⟨rfl,by simp only [setT]; rw [if_neg (fun e => by rw [e,hg] at ht; cases ht)]; exact ht,hm,fun _ => rfl⟩⟩
theorem killS_rep {f : Nat → Value} (H : EnvOK G w st.env f) (k : Option Nat) (t : Nat) : Rep G (killS k st.env t) (f t) := by
  cases k with
  | none => exact H.1 t
  | some p =>
    simp only [killS]
    split
    · rename_i e; subst e; exact (H.1 t).noR
    · exact H.1 t
theorem noR_own {c : C} {s n : Nat} {xs : List C} (h : c.noR = .sl (.own s) n xs) : False := by
  have := noOwn_noR c
  rw [h] at this
  exact this
theorem killS_own {k : Option Nat} {t s n : Nat} {xs : List C} {env : Nat → C} (h : killS k env t = .sl (.own s) n xs) : env t = .sl (.own s) n xs ∧ k ≠ some t := by
  cases k with
  | none => exact ⟨h,by simp⟩
  | some p =>
    simp only [killS] at h
    split at h
    · exact (noR_own h).elim
    · rename_i e; exact ⟨h,fun e' => e (by simpa using e'.symm)⟩
theorem OpOK.move (H : Pre cx G w st a) {d : Place} {c : C} {x : Operand} (hx : c = cx.ev st.env x) (hrun : (execOp a.eval o).run cx.P w = .ok (.value (a.eval x)) w) :
    OpOK cx.P o a G w ⟨killS (tmp? x) st.env,st.h⟩ d c := by
  have hrep : Rep G c (a.eval x) := hx ▸ H.ev x
  have plain : (∀ s n xs,c = .sl (.own s) n xs → OwnRow G w d (a.eval x) s n) → OpOK cx.P o a G w ⟨killS (tmp? x) st.env,st.h⟩ d c := fun hO =>
    OpOK.of_run hrun ⟨G,hrep,hO,H.ok,⟨fun t => killS_rep H.env _ t,fun t s n xs e => H.env.2 t s n xs (killS_own e).1⟩,Frm.refl G w⟩
  by_cases hno : c.noOwn
  · exact plain fun s n xs e => by rw [e] at hno; exact hno.elim
  · obtain ⟨p,hp⟩ : ∃ p,x = .tmp p := by
      cases x with
      | tmp p => exact ⟨p,rfl⟩
      | const v => exact absurd (hx ▸ trivial) hno
      | global g => exact absurd (hx ▸ noOwn_noR _) hno
      | func f => exact absurd (hx ▸ trivial) hno
    subst hp
    have hce : c = st.env p := hx
    obtain ⟨s,n,xs,hs⟩ : ∃ s n xs,c = .sl (.own s) n xs := by
      cases c with
      | sl r n xs => cases r with
        | own s => exact ⟨_,_,_,rfl⟩
        | no => exact absurd trivial hno
        | full => exact absurd trivial hno
      | _ => exact absurd trivial hno
    rcases H.env.2 p s n xs (hce ▸ hs) with O | ⟨g,cap,cur,e,a1,a2,a3,a4,a5,a6⟩
    · refine plain fun s' n' xs' e => ?_
      rw [hs] at e
      cases e
      exact .inl O
    · have le : G.Le (setT G g (some d)) := ⟨fun _ _ _ x => x,fun _ _ x => x,fun _ _ x => x⟩
      refine OpOK.of_run hrun ⟨setT G g (some d),hrep.mono le,?_,retag_ok H.ok a2,⟨fun t => (killS_rep H.env (some p) t).mono le,?_⟩,frm_retag a2⟩
      · intro s' n' xs' e'
        rw [hs] at e'
        cases e'
        exact .inr ⟨g,cap,cur,e,a1,by simp [setT],a3,a4,a5,a6⟩
      · intro t s' n' xs' e'
        obtain ⟨e1,e2⟩ := killS_own (env := st.env) (k := tmp? (.tmp p)) e'
        have hpt : p ≠ t := by simpa [tmp?] using e2
        rcases H.env.2 t s' n' xs' e1 with O | ⟨g',cap',cur',e'',b1,b2,b3,b4,b5,b6⟩
        · exact .inl O
        · have hne : g' ≠ g := fun q => hpt (by rw [q,a2] at b2; simpa using b2)
          exact .inr ⟨g',cap',cur',e'',b1,by simp only [setT]; rw [if_neg hne]; exact b2,b3,b4,b5,b6⟩
end
end Go.Sx
namespace Go.Sx
open Go.RowKit
section
variable {cx : Cx} {G : Gh} {w : World} {st : St} {a : Act} {o : Oper}
theorem rep_val {v u : Value} : Rep G (.val v) u ↔ u = v := by simp [Rep]
theorem int?_rep {c : C} {v : Value} {k : IntKind} {n : Int} (h : c.int? = some (k,n)) (hr : Rep G c v) : v = .int k n := by
  unfold C.int? at h
  split at h
  · cases h; exact rep_val.1 hr
  · cases h
theorem sl?_rep {c : C} {v : Value} {n : Nat} {xs : List C} (h : c.sl? = some (n,xs)) (hr : Rep G c v) :
    ∃ b cap,v = .slice b n cap ∧ n ≤ cap ∧ cap ≤ maxLen ∧ (xs = [] ∨ ∃ blk off,b = some ⟨blk,off,none⟩ ∧ RepK G blk off xs) := by
  unfold C.sl? at h
  split at h
  · cases h
    simp only [Rep] at hr
    obtain ⟨b,cap,h1,h2,h3,_,h5⟩ := hr
    exact ⟨b,cap,h1,h2,h3,h5⟩
  · cases h
    rw [rep_val] at hr
    exact ⟨none,0,hr,Nat.le_refl _,Nat.zero_le _,.inl rfl⟩
  · cases h
theorem share_rep {c : C} {v : Value} (hr : Rep G c v) : Rep G c.share v := by
  unfold C.share
  split
  · rw [rep_val] at hr
    simp only [Rep]
    exact ⟨none,0,hr,Nat.le_refl _,Nat.zero_le _,by simp,by simp⟩
  · simp only [Rep] at hr ⊢
    obtain ⟨a,cap,h1,h2,h3,_,h5⟩ := hr
    exact ⟨a,cap,h1,h2,h3,by simp,h5⟩
  · exact hr.noR
theorem RepL.map_noR {xs : List C} {vs : List Value} (h : RepL G xs vs) : RepL G (xs.map C.noR) vs :=
  RepL.of_get (by simpa using h.length) fun i x v hx hv => by
    rw [List.getElem?_map] at hx
    cases hy : xs[i]? with
    | none => rw [hy] at hx; cases hx
    | some y =>
      rw [hy] at hx
      cases hx
      obtain ⟨u,hu,hr⟩ := h.get i y hy
      rw [hv] at hu
      cases hu
      exact hr.noR
theorem cells?_rep {c : C} {v : Value} {cs : List C} (h : c.cells? = some cs) (hr : Rep G c v) :
    RepL G cs v.cells.toList ∧ ∀ u ∈ v.cells.toList,u.oneCell' = true := by
  have one : ∀ (d : C) (x : Value),Rep G d x → x.oneCell' = true → cs = [d] → x = v → RepL G cs v.cells.toList ∧ ∀ u ∈ v.cells.toList,u.oneCell' = true := by
    rintro d x h1 h2 rfl rfl
    have hc : x.cells = #[x] := by cases x <;> first | rfl | cases h2
    rw [hc]
    exact ⟨by simp only [RepL]; exact ⟨x,[],rfl,h1,rfl⟩,by simp [h2]⟩
  unfold C.cells? at h
  split at h
  · cases h
    simp only [Rep] at hr
    obtain ⟨vs,rfl,h2,h3⟩ := hr
    exact ⟨h2.map_noR,h3⟩
  · rename_i vs
    split at h
    · rename_i ha
      cases h
      rw [rep_val] at hr
      subst hr
      refine ⟨RepL.of_get (by simp [Value.cells]) fun i x u hx hu => ?_,fun u hu => (List.all_eq_true.1 ha) u hu⟩
      rw [List.getElem?_map] at hx
      have hu' : vs.toList[i]? = some u := hu
      rw [hu'] at hx
      cases hx
      exact rep_val.2 rfl
    · cases h
  · rename_i u hne
    split at h
    · rename_i h1
      cases h
      rw [rep_val] at hr
      subst hr
      exact one _ _ (rep_val.2 rfl) h1 rfl rfl
    · cases h
  · rename_i r n xs
    cases h
    have hr' := hr.noR
    simp only [Rep] at hr
    obtain ⟨b,cap,rfl,_⟩ := hr
    exact one _ _ hr' rfl rfl rfl
  · cases h
    have hr' := hr
    simp only [Rep] at hr
    obtain ⟨b,cap,rfl,_⟩ := hr
    exact one _ _ hr' rfl rfl rfl
  · cases h
    have hr' := hr
    simp only [Rep] at hr
    obtain ⟨k,_,rfl⟩ := hr
    exact one _ _ hr' rfl rfl rfl
  · cases h
    have hr' := hr
    simp only [Rep] at hr
    obtain ⟨k,off,rfl,_⟩ := hr
    exact one _ _ hr' rfl rfl rfl
  · cases h
    have hr' := hr
    simp only [Rep] at hr
    obtain ⟨vs,rfl,_⟩ := hr
    exact one _ _ hr' rfl rfl rfl
  · cases h
    have hr' := hr
    simp only [Rep] at hr
    obtain ⟨b,cap,rfl,_⟩ := hr
    exact one _ _ hr' rfl rfl rfl
  · cases h
    have hr' := hr
    simp only [Rep] at hr
    obtain ⟨k,_,rfl⟩ := hr
    exact one _ _ hr' rfl rfl rfl
  · cases h
    have hr' := hr
    simp only [Rep] at hr
    obtain ⟨k,_,rfl,_⟩ := hr
    exact one _ _ hr' rfl rfl rfl
  · cases h
  · cases h
theorem cells?_noOwn {c : C} {cs : List C} (h : c.cells? = some cs) : ∀ x ∈ cs,x.noOwn := by
  unfold C.cells? at h
  split at h
  · cases h; intro x hx; obtain ⟨v,_,rfl⟩ := List.mem_map.1 hx; exact noOwn_noR v
  · split at h
    · cases h; intro x hx; obtain ⟨v,_,rfl⟩ := List.mem_map.1 hx; trivial
    · cases h
  · split at h
    · cases h; simp [C.noOwn]
    · cases h
  · cases h; intro x hx; simp only [List.mem_singleton] at hx; subst hx; exact noOwn_noR _
  all_goals first | (cases h; simp [C.noOwn]; done) | cases h
theorem agg?_rep {c : C} {v : Value} {xs : List C} (h : c.agg? = some xs) (hr : Rep G c v) : ∃ vs,v = .agg vs ∧ RepL G xs vs.toList ∧ ∀ u ∈ vs.toList,u.oneCell' = true := by
  unfold C.agg? at h
  split at h
  · cases h
    simpa only [Rep] using hr
  · rename_i vs
    split at h
    · rename_i ha
      cases h
      rw [rep_val] at hr
      subst hr
      refine ⟨vs,rfl,RepL.of_get (by simp) fun i x u hx hu => ?_,fun u hu => (List.all_eq_true.1 ha) u hu⟩
      rw [List.getElem?_map,hu] at hx
      cases hx
      exact rep_val.2 rfl
    · cases h
  · cases h
theorem RepL.drop {xs : List C} {vs : List Value} (h : RepL G xs vs) (k : Nat) : RepL G (xs.drop k) (vs.drop k) :=
  RepL.of_get (by simp [h.length]) fun i x v hx hv => by
    rw [List.getElem?_drop] at hx hv
    obtain ⟨u,hu,hr⟩ := h.get _ x hx
    rw [hv] at hu; cases hu; exact hr
theorem RepL.take {xs : List C} {vs : List Value} (h : RepL G xs vs) (k : Nat) : RepL G (xs.take k) (vs.take k) :=
  RepL.of_get (by simp [h.length]) fun i x v hx hv => by
    rw [List.getElem?_take] at hx hv
    split at hx
    · rename_i hik
      rw [if_pos hik] at hv
      obtain ⟨u,hu,hr⟩ := h.get _ x hx
      rw [hv] at hu; cases hu; exact hr
    · cases hx
theorem RepL.append {xs ys : List C} {vs us : List Value} (h : RepL G xs vs) (k : RepL G ys us) : RepL G (xs ++ ys) (vs ++ us) :=
  RepL.of_get (by simp [h.length,k.length]) fun i x v hx hv => by
    rw [List.getElem?_append] at hx hv
    rw [h.length] at hx
    split at hx
    · rename_i hi
      rw [if_pos hi] at hv
      obtain ⟨u,hu,hr⟩ := h.get _ x hx
      rw [hv] at hu; cases hu; exact hr
    · rename_i hi
      rw [if_neg hi] at hv
      obtain ⟨u,hu,hr⟩ := k.get _ x hx
      rw [hv] at hu; cases hu; exact hr
theorem run_isAgg {P : Program} {t : TypeId} {d : TD} (h : td P t = some d) (w : World) : (isAgg t).run P w = .ok d.isAgg w := by
  unfold isAgg TD.isAgg
  simp only [Sem.run_bind,run_und h,Result.andThen_ok]
  split <;> simp_all
theorem getAt_part {P : Program} {t : TypeId} {d : TD} (h : td P t = some d) {xs : List C} {vs : Array Value} (hr : RepL G xs vs.toList) (h1 : ∀ u ∈ vs.toList,u.oneCell' = true) {off : Nat} {c : C}
    (hg : getAt d xs off = some c) : ∃ v,(part t vs off).run P w = .ok v w ∧ Rep G c v ∧ c.noOwn := by
  unfold getAt at hg
  unfold part
  simp only [Sem.run_bind,run_isAgg h,Result.andThen_ok]
  split at hg
  · rename_i ha
    rw [if_pos ha]
    split at hg
    · rename_i hle
      cases hg
      simp only [Sem.run_bind,run_size h,Result.andThen_ok,Sem.run_pure]
      refine ⟨_,rfl,?_,trivial⟩
      simp only [Rep]
      have hex : (vs.extract off (off + d.size)).toList = (vs.toList.drop off).take d.size := by
        simp [Array.toList_extract,List.extract_eq_take_drop]
      refine ⟨_,rfl,by rw [hex]; exact ((hr.drop off).take d.size).map_noR,fun u hu => ?_⟩
      rw [hex] at hu
      exact h1 u (List.mem_of_mem_drop (List.mem_of_mem_take hu))
    · cases hg
  · rename_i ha
    rw [if_neg ha]
    cases hx : xs[off]? with
    | none => rw [hx] at hg; cases hg
    | some x =>
      rw [hx] at hg
      cases hg
      obtain ⟨v,hv,hrv⟩ := hr.get off x hx
      have hv' : vs[off]? = some v := by simpa using hv
      rw [hv']
      exact ⟨v,rfl,hrv.noR,noOwn_noR x⟩
theorem idx?_spec {c : C} {v : Value} {n k : Nat} (h : idx? c n = some k) (hr : Rep G c v) : ∃ kd,v = .int kd (k : Int) ∧ k < n := by
  unfold idx? at h
  split at h
  · rename_i kd i hi
    split at h
    · rename_i hb
      cases h
      have := int?_rep hi hr
      refine ⟨kd,?_,by omega⟩
      rw [this,Int.toNat_of_nonneg hb.1]
    · cases h
  · cases h
theorem sbin_int (P : Program) (w : World) (op : BinOp) (t : TypeId) (x y : Operand) (k k' : IntKind) (p q : Int) {v : Value} (h : sbin op (.int k p) (.int k' q) = some v) :
    (do eqGuard op t x y (.int k p) (.int k' q); binOp op t (.int k p) (.int k' q)).run P w = .ok v w := by
  have hg : (eqGuard op t x y (.int k p) (.int k' q)).run P w = .ok () w := by
    unfold eqGuard
    split <;> rfl
  simp only [Sem.run_bind,hg,Result.andThen_ok]
  unfold sbin at h
  cases op <;> simp only [] at h <;> simp only [binOp,Op.shift,Op.intArith,Op.intDiv,Op.intBits,Op.intCmp]
  case shl =>
    split at h
    · cases h
    · rename_i hb; cases h; rw [if_neg hb]; rfl
  case shr =>
    split at h
    · cases h
    · rename_i hb; cases h; rw [if_neg hb]; rfl
  all_goals
    split at h
    · cases h
    · rename_i hk
      simp only [hk,if_false]
      first
        | (cases h; rfl)
        | (split at h <;> simp_all)
theorem sbin_str (P : Program) (w : World) (op : BinOp) (t : TypeId) (x y : Operand) (p q : ByteArray) {v : Value} (h : sbin op (.string p) (.string q) = some v) :
    (do eqGuard op t x y (.string p) (.string q); binOp op t (.string p) (.string q)).run P w = .ok v w := by
  have hg : (eqGuard op t x y (.string p) (.string q)).run P w = .ok () w := by
    unfold eqGuard
    split <;> rfl
  simp only [Sem.run_bind,hg,Result.andThen_ok]
  unfold sbin at h
  cases op <;> simp only [] at h <;> simp only [binOp,Op.stringOp] <;> first | (cases h; rfl) | cases h | skip
  split at h
  · rename_i hle
    cases h
    rw [if_neg]
    · rfl
    · have : IntKind.i64.max = 9223372036854775807 := by decide
      rw [this]; omega
  · cases h
theorem sbin_bool (P : Program) (w : World) (op : BinOp) (t : TypeId) (x y : Operand) (p q : Bool) {v : Value} (ht : P.underlying t = some .bool) (h : sbin op (.bool p) (.bool q) = some v) :
    (do eqGuard op t x y (.bool p) (.bool q); binOp op t (.bool p) (.bool q)).run P w = .ok v w := by
  have hg : (eqGuard op t x y (.bool p) (.bool q)).run P w = .ok () w := by
    unfold eqGuard
    split <;> rfl
  simp only [Sem.run_bind,hg,Result.andThen_ok]
  have he0 : ∀ d,(Op.equalIn (d + 1) t (.bool p) (.bool q)).run P w = .ok (p == q) w := fun d => by
    simp [Op.equalIn,run_underlying ht]
  have he : (Op.equal t (.bool p) (.bool q)).run P w = .ok (p == q) w := he0 9999
  unfold sbin at h
  cases op <;> simp only [] at h <;> first | (cases h; simp only [binOp,Sem.run_bind,he,Result.andThen_ok,Sem.run_pure]) | cases h
end
end Go.Sx
