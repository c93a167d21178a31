/-
   And what follows.
-/
import Derived.Maps.Keyed
import Derived.Test.YtcpdlhgkdogdjaaDoorPae
set_option linter.unusedSimpArgs false
set_option linter.unusedVariables false
namespace Go.Sx
open Go.RowKit Go.ChangeMaps Go.Maps
section
variable {cx : Cx} {G : Gh} {h : Hp} {w : World} {st : St} {a : Act} {o : Oper} {P : Program}
theorem vq1_spec {a b : Value} {r : Bool} (h : vq1 a b = some r) : (r = true → a = b) ∧ (r = false → a ≠ b) := by
  unfold vq1 at h
  split at h
  · rename_i k x k' y
    split at h
    · rename_i hk
      subst hk
      cases h
      constructor
      · intro e; rw [beq_iff_eq.1 e]
      · intro e e2; cases e2; simp at e
    · cases h
  · rename_i x y
    cases h
    constructor
    · intro e
      have e' := beq_iff_eq.1 e
      obtain ⟨⟨x⟩⟩ := x
      obtain ⟨⟨y⟩⟩ := y
      simp only at e'
      rw [e']
    · intro e e2; cases e2; simp at e
  · cases h
    constructor
    · intro e; rw [beq_iff_eq.1 e]
    · intro e e2; cases e2; simp at e
  · cases h
theorem vqs_spec : ∀ {a b : List Value} {r : Bool},vqs a b = some r → (r = true → a = b) ∧ (r = false → a ≠ b)
  | [],[],r,h => by cases h; exact ⟨fun _ => rfl,fun e => by cases e⟩
  | x :: a,y :: b,r,h => by
    unfold vqs at h
    cases hq : vq1 x y with
    | none => rw [hq] at h; cases h
    | some q =>
      have h1 := vq1_spec hq
      rw [hq] at h
      cases q with
      | true =>
        have h2 := vqs_spec (a := a) (b := b) h
        rw [h1.1 rfl]
        exact ⟨fun e => by rw [h2.1 e],fun e e2 => h2.2 e (List.cons.inj e2).2⟩
      | false =>
        cases h
        exact ⟨fun e => absurd e (by simp),fun _ e2 => h1.2 rfl (List.cons.inj e2).1⟩
  | [],_ :: _,r,h => by cases h
  | _ :: _,[],r,h => by cases h
theorem vq_spec {a b : Value} {r : Bool} (h : vq a b = some r) : (r = true → a = b) ∧ (r = false → a ≠ b) := by
  unfold vq at h
  split at h
  · rename_i x y
    have := vqs_spec h
    obtain ⟨x⟩ := x
    obtain ⟨y⟩ := y
    exact ⟨fun e => by have := this.1 e; simp only at this; rw [this],fun e e2 => by cases e2; exact this.2 e rfl⟩
  · exact vq1_spec h
mutual
theorem valQ_rep : ∀ {c : C} {u v : Value},valQ c = some u → Rep G c v → v = u
  | .val x,u,v,h,r => by
    simp only [valQ,Option.some.injEq] at h
    rw [rep_val] at r; rw [r,h]
  | .agg xs,u,v,h,r => by
    simp only [valQ] at h
    cases hq : valQs xs with
    | none => rw [hq] at h; cases h
    | some l =>
      rw [hq] at h
      cases h
      simp only [Rep] at r
      obtain ⟨vs,rfl,hr,_⟩ := r
      rw [← valQs_rep hq hr]
  | .top,u,v,h,r => by simp [valQ] at h
  | .sl _ _ _,u,v,h,r => by simp [valQ] at h
  | .sv _ _ _,u,v,h,r => by simp [valQ] at h
  | .bp _ _,u,v,h,r => by simp [valQ] at h
  | .kp _,u,v,h,r => by simp [valQ] at h
  | .tup _,u,v,h,r => by simp [valQ] at h
  | .fn _ _,u,v,h,r => by simp [valQ] at h
  | .gv _ _ _,u,v,h,r => by simp [valQ] at h
  | .mp _,u,v,h,r => by simp [valQ] at h
  | .bt _ _ _,u,v,h,r => by simp [valQ] at h
theorem valQs_rep : ∀ {xs : List C} {us vs : List Value},valQs xs = some us → RepL G xs vs → vs = us
  | [],us,vs,h,r => by
    simp only [valQs,Option.some.injEq] at h
    simp only [RepL] at r; rw [r,← h]
  | x :: xs,us,vs,h,r => by
    simp only [valQs] at h
    cases hq : valQ x with
    | none => rw [hq] at h; cases h
    | some v0 =>
      cases hq2 : valQs xs with
      | none => rw [hq,hq2] at h; cases h
      | some l =>
        rw [hq,hq2] at h
        cases h
        simp only [RepL] at r
        obtain ⟨v,vs',rfl,h1,h2⟩ := r
        rw [valQ_rep hq h1,valQs_rep hq2 h2]
end
theorem mfind_ok {kt : TypeId} {k : Value} : ∀ (ents : List C) (es : List MapEntry) (i : Nat) (r : Option (Nat × C)),MRep G ents es → mfind cx kt k ents i = some r →
    (∀ e ∈ es,cx.km kt e.key = true) ∧ (match r with
      | none => ∀ e ∈ es,e.key ≠ k
      | some (n,v) => ∃ j e,n = i + j ∧ es[j]? = some e ∧ e.key = k ∧ Rep G v e.val ∧ ∀ j' e',es[j']? = some e' → e'.key = k → j' = j)
  | [],es,i,r,hm,h => by
    simp only [mfind,Option.some.injEq] at h
    simp only [MRep] at hm
    subst h hm
    exact ⟨fun e he => by simp at he,fun e he => by simp at he⟩
  | [_],es,i,r,hm,h => by simp [MRep] at hm
  | c :: v :: l,es,i,r,hm,h => by
    simp only [MRep] at hm
    obtain ⟨e,es',rfl,h1,h2,h3⟩ := hm
    unfold mfind at h
    split at h
    · rename_i he; cases he
    · rename_i i l9 i9 u v' l' he
      simp only [List.cons.injEq] at he
      obtain ⟨rfl,rfl,rfl⟩ := he
      rw [rep_val] at h1
      split at h
      · rename_i hmk
        cases hq : vq k u with
        | none => rw [hq] at h; cases h
        | some q =>
          have hs := vq_spec hq
          rw [hq] at h
          cases q with
          | true =>
            simp only at h
            cases hr : mfind cx kt k l (i + 1) with
            | none => rw [hr] at h; cases h
            | some r2 =>
              rw [hr] at h
              cases r2 with
              | some _ => cases h
              | none =>
                cases h
                obtain ⟨g1,g2⟩ := mfind_ok l es' (i + 1) none h3 hr
                refine ⟨fun x hx => ?_,0,e,by omega,rfl,by rw [h1,hs.1 rfl],h2,fun j' e' hj hk => ?_⟩
                · rcases List.mem_cons.1 hx with rfl | hx
                  · rw [h1]; exact hmk
                  · exact g1 x hx
                · cases j' with
                  | zero => rfl
                  | succ j' => exact absurd hk (g2 e' (List.mem_of_getElem? (by simpa using hj)))
          | false =>
            simp only at h
            obtain ⟨g1,g2⟩ := mfind_ok l es' (i + 1) r h3 h
            have hne : e.key ≠ k := by rw [h1]; exact fun x => hs.2 rfl x.symm
            refine ⟨fun x hx => ?_,?_⟩
            · rcases List.mem_cons.1 hx with rfl | hx
              · rw [h1]; exact hmk
              · exact g1 x hx
            · cases r with
              | none =>
                intro x hx
                rcases List.mem_cons.1 hx with rfl | hx
                · exact hne
                · exact g2 x hx
              | some p =>
                obtain ⟨n,v2⟩ := p
                obtain ⟨j,e',a1,a2,a3,a4,a5⟩ := g2
                refine ⟨j + 1,e',by omega,by simpa using a2,a3,a4,fun j' e2 hj hk => ?_⟩
                cases j' with
                | zero => simp at hj; subst hj; exact absurd hk hne
                | succ j' => rw [a5 j' e2 (by simpa using hj) hk]
      · cases h
    · cases h
theorem mapKT_spec {t kt et : TypeId} (h : mapKT P t = some (kt,et)) : P.underlying t = some (.map kt et) := by
  unfold mapKT at h
  split at h
  · rename_i d hd
    split at h
    · rename_i k e hu
      cases h
      rw [← hu]; exact (td_spec hd).1
    · cases h
  · cases h
theorem zvC_spec {e : TypeId} {c : C} (h : zvC P e = some c) : ∃ z,(zeroValue e).run P w = .ok z w ∧ Rep G c z ∧ c.noOwn := by
  unfold zvC at h
  split at h
  · rename_i i hi
    split at h
    · rename_i vs hz
      split at h
      · rename_i h1
        cases h
        refine ⟨.agg vs,by simp [zeroValue,typeInfo,hi,hz],?_,trivial⟩
        simp only [Rep]
        refine ⟨vs,rfl,?_,fun u hu => List.all_eq_true.1 h1 u hu⟩
        have : ∀ l : List Value,RepL G (l.map .val) l := fun l => by
          induction l with
          | nil => rfl
          | cons x l ih => simp only [List.map_cons,RepL]; exact ⟨x,l,rfl,rep_val.2 rfl,ih⟩
        exact this _
      · cases h
    · rename_i z hza hz
      split at h
      · cases h
        exact ⟨z,by simp [zeroValue,typeInfo,hi,hz],rep_val.2 rfl,trivial⟩
      · cases h
    · cases h
  · cases h
theorem setBlock_same {blk : Nat} {o o0 : Obj} (h : w.heap[blk]? = some o0) : (setBlock w blk o).heap[blk]? = some o := by
  have hl := (Array.getElem?_eq_some_iff.1 h).1
  show (w.heap.setIfInBounds blk o)[blk]? = _
  simp [hl]
theorem setBlock_other {blk g : Nat} {o : Obj} (h : g ≠ blk) : (setBlock w blk o).heap[g]? = w.heap[g]? := by
  show (w.heap.setIfInBounds blk o)[g]? = _
  rw [Array.getElem?_setIfInBounds_ne (Ne.symm h)]
theorem setBlock_size {blk : Nat} {o : Obj} : (setBlock w blk o).heap.size = w.heap.size := by
  show (w.heap.setIfInBounds blk o).size = _
  simp
theorem mpL_mapC (l : List C) : mpL (some (mapC l)) = some l := rfl
theorem liveC_mapC (l : List C) : liveC (some (mapC l)) = none := rfl
theorem ownRow_setMap {blk : Nat} {es : Array MapEntry} {clk : Nat} {ob : Obj} (hb : w.heap[blk]? = some (.map es clk)) {p : Place} {v : Value} {s n : Nat} (O : OwnRow G w p v s n) : OwnRow G (setBlock w blk ob) p v s n := by
  rcases O with O | ⟨g,cap,cur,e,a1,a2,a3,a4⟩
  · exact .inl O
  · have hne : g ≠ blk := fun e2 => by rw [e2,hb] at a3; cases a3
    exact .inr ⟨g,cap,cur,e,a1,a2,by rw [setBlock_other hne]; exact a3,a4⟩
theorem WorldOK.setMap (H : WorldOK G h w) {b blk : Nat} {l0 : List C} {es : Array MapEntry} {clk : Nat} (hb : h.mp b = some l0) (hμ : G.μ b = some blk) (hw : w.heap[blk]? = some (.map es clk)) (l : List C) (es' : Array MapEntry) (clk' : Nat) (hr : MRep G l es'.toList) :
    WorldOK G (h.set b (some (mapC l))) (setBlock w blk (.map es' clk')) ∧ Frm G w G (setBlock w blk (.map es' clk')) := by
  have hlen := Hp.mp_lt hb
  have hat : ∀ k cells,Hp.at (h.set b (some (mapC l))) k = some cells → k ≠ b ∧ h.at k = some cells := fun k cells x => by
    rw [Hp.at_set hlen,liveC_mapC] at x
    split at x
    · cases x
    · rename_i e; exact ⟨e,x⟩
  have oth : ∀ {g : Nat},g ≠ blk → (setBlock w blk (.map es' clk')).heap[g]? = w.heap[g]? := fun hne => setBlock_other hne
  refine ⟨⟨fun k off u hk => ?_,fun k cells hk => ?_,fun k q hq => ?_,fun k k' c c' q x x' y y' => H.inj k k' c c' q (hat k c x).2 (hat k' c' x').2 y y',H.sep,fun g p hg => by rw [setBlock_size]; exact H.tlt g p hg,fun k cells off s n xs q v hk hc hm hv => ?_,fun k z hz => ?_,fun k lk hk => ?_,fun k k' lk lk' q x x' y y' => ?_⟩,⟨rfl,rfl,rfl,by rw [setBlock_size]; exact Nat.le_refl _,.refl G,fun g _ ht hm => ⟨oth (fun e => hm b (e ▸ hμ)),ht,hm,fun _ => rfl⟩⟩⟩
  · have hne : k ≠ blk := fun e => by rw [e,(H.sep b blk hμ).1 off] at hk; cases hk
    rw [World.cell?_of_block (oth hne)]
    exact H.known k off u hk
  · obtain ⟨_,hk'⟩ := hat k cells hk
    rcases H.box k cells hk' with hE | ⟨q,cs,e,q1,⟨fr,q2,q2'⟩,q3,q4,q5⟩
    · exact .inl hE
    · have hne : q ≠ blk := fun e => by rw [e,hw] at q2; cases q2
      exact .inr ⟨q,cs,e,q1,⟨fr,by rw [oth hne]; exact q2,q2'⟩,q3,q4,q5⟩
  · obtain ⟨⟨c,hc⟩,hl⟩ := H.dom k q hq
    refine ⟨?_,by rw [setBlock_size]; exact hl⟩
    rw [List.getElem?_set]
    by_cases e : b = k
    · rw [if_pos e,if_pos hlen]; exact ⟨_,rfl⟩
    · rw [if_neg e]; exact ⟨c,hc⟩
  · obtain ⟨_,hk'⟩ := hat k cells hk
    have hne : q ≠ blk := fun e => by
      rcases H.box k cells hk' with ⟨_,hE⟩ | ⟨q',cs,e',q1,⟨fr,q2,_⟩,_⟩
      · rw [hm] at hE; cases hE
      · rw [hm] at q1; cases q1; rw [e,hw] at q2; cases q2
    rw [World.cell?_of_block (oth hne)] at hv
    exact ownRow_setMap hw (H.own k cells off s n xs q v hk' hc hm hv)
  · obtain ⟨q,cs,e,fr,q1,q2,q3⟩ := H.siz k z hz
    have hne : q ≠ blk := fun e => by rw [e,hw] at q2; cases q2
    exact ⟨q,cs,e,fr,q1,by rw [oth hne]; exact q2,q3⟩
  · rw [Hp.mp_set hlen] at hk
    split at hk
    · rename_i e
      subst e
      cases hk
      exact ⟨blk,es',clk',hμ,setBlock_same hw,hr⟩
    · rename_i e
      obtain ⟨q,es2,clk2,q1,q2,q3⟩ := H.mpo k lk hk
      have hne : q ≠ blk := fun e2 => e (H.mpi k b lk l0 blk hk hb (e2 ▸ q1) hμ)
      exact ⟨q,es2,clk2,q1,by rw [oth hne]; exact q2,q3⟩
  · rw [Hp.mp_set hlen] at x x'
    have f : ∀ (i : Nat) (z : List C),(if i = b then mpL (some (mapC l)) else h.mp i) = some z → ∃ z',h.mp i = some z' := fun i z hz => by
      split at hz
      · rename_i e; subst e; exact ⟨_,hb⟩
      · exact ⟨_,hz⟩
    obtain ⟨d1,e1⟩ := f k lk x
    obtain ⟨d2,e2⟩ := f k' lk' x'
    exact H.mpi k k' d1 d2 q e1 e2 y y'
theorem env_setMap {blk : Nat} {es : Array MapEntry} {clk : Nat} {ob : Obj} (hb : w.heap[blk]? = some (.map es clk)) {env : Nat → C} {f : Nat → Value} (E : EnvOK G w env f) : EnvOK G (setBlock w blk ob) env f :=
  ⟨E.1,fun t s n xs e => ownRow_setMap hb (E.2 t s n xs e)⟩
theorem WorldOK.newMap (H : WorldOK G h w) : WorldOK { G with μ := fun b => if b = h.length then some w.heap.size else G.μ b } (h ++ [some (mapC [])]) (w.alloc (.map #[] 0)) ∧ Ext G w { G with μ := fun b => if b = h.length then some w.heap.size else G.μ b } (w.alloc (.map #[] 0)) := by
  have hm := H.μnone (Nat.le_refl h.length)
  have E : Ext G w { G with μ := fun b => if b = h.length then some w.heap.size else G.μ b } (w.alloc (.map #[] 0)) := by
    refine ⟨rfl,rfl,rfl,by simp,fun g hg => World.heap_old w _ g hg,fun _ _ _ => rfl,fun _ _ => rfl,fun b => ?_,fun _ _ x => x⟩
    by_cases hb : b = h.length
    · subst hb; exact .inr ⟨hm,w.heap.size,Nat.le_refl _,by simp⟩
    · exact .inl (by simp [hb])
  have le := E.le H
  have hat : ∀ k cells,Hp.at (h ++ [some (mapC [])]) k = some cells → k ≠ h.length ∧ h.at k = some cells := fun k cells x => by
    rw [Hp.at_append,liveC_mapC] at x
    split at x
    · cases x
    · rename_i e; exact ⟨e,x⟩
  have hμ' : ∀ {k q : Nat},k ≠ h.length → (if k = h.length then some w.heap.size else G.μ k) = some q → G.μ k = some q := fun hk x => by rwa [if_neg hk] at x
  refine ⟨⟨fun blk off u hk => ?_,fun k cells hk => ?_,fun k q hq => ?_,fun k k' c c' q x x' y y' => H.inj k k' c c' q (hat k c x).2 (hat k' c' x').2 (hμ' (hat k c x).1 y) (hμ' (hat k' c' x').1 y'),fun k q hq => ?_,fun g p hg => ?_,fun k cells off s n xs q v hk hc hm' hv => ?_,fun k z hz => ?_,fun k lk hk => ?_,fun k k' lk lk' q x x' y y' => ?_⟩,E⟩
  · have hk' : G.K blk off = some u := hk
    rw [E.cell (H.klt hk')]
    exact H.known blk off u hk'
  · obtain ⟨n1,hk'⟩ := hat k cells hk
    rcases H.box k cells hk' with ⟨hE,hE2⟩ | ⟨q,cs,e,q1,q2,q3,q4,q5⟩
    · exact .inl ⟨hE,by show (if k = h.length then _ else _) = _; rw [if_neg n1]; exact hE2⟩
    · exact .inr ⟨q,cs,e,le.μ _ _ q1,by rw [E.heap q (H.μlt q1)]; exact q2,q3,q4.mono le,q5⟩
  · have hq' : (if k = h.length then some w.heap.size else G.μ k) = some q := hq
    by_cases e : k = h.length
    · subst e
      rw [if_pos rfl] at hq'; cases hq'
      exact ⟨⟨_,by simp; rfl⟩,by simp⟩
    · obtain ⟨⟨c,hc⟩,hl⟩ := H.dom k q (hμ' e hq')
      exact ⟨⟨c,by rw [List.getElem?_append_left (List.getElem?_eq_some_iff.1 hc).1]; exact hc⟩,Nat.lt_of_lt_of_le hl E.size⟩
  · have hq' : (if k = h.length then some w.heap.size else G.μ k) = some q := hq
    by_cases e : k = h.length
    · subst e
      rw [if_pos rfl] at hq'; cases hq'
      exact ⟨fun o => H.knone (Nat.le_refl _) o,H.tnone (Nat.le_refl _)⟩
    · exact H.sep k q (hμ' e hq')
  · have := H.tlt g p hg
    simp; omega
  · obtain ⟨n1,hk'⟩ := hat k cells hk
    have hm2 := hμ' n1 hm'
    rw [E.cell (H.μlt hm2)] at hv
    exact E.own H (H.own k cells off s n xs q v hk' hc hm2 hv)
  · obtain ⟨q,cs,e,fr,q1,q2,q3⟩ := H.siz k z hz
    exact ⟨q,cs,e,fr,le.μ _ _ q1,by rw [E.heap q (H.μlt q1)]; exact q2,q3⟩
  · rw [Hp.mp_append] at hk
    split at hk
    · rename_i e
      subst e
      cases hk
      exact ⟨w.heap.size,#[],0,by show (if _ then _ else _) = _; rw [if_pos rfl],World.heap_new w _,by simp [MRep]⟩
    · rename_i e
      obtain ⟨q,es2,clk2,q1,q2,q3⟩ := H.mpo k lk hk
      exact ⟨q,es2,clk2,le.μ _ _ q1,by rw [E.heap q (H.μlt q1)]; exact q2,q3.mono le⟩
  · have y1 : (if k = h.length then some w.heap.size else G.μ k) = some q := y
    have y2 : (if k' = h.length then some w.heap.size else G.μ k') = some q := y'
    rw [Hp.mp_append] at x x'
    split at y1 <;> split at y2
    · omega
    · have := H.μlt y2; cases y1; omega
    · have := H.μlt y1; cases y2; omega
    · rename_i n1 n2
      rw [if_neg n1] at x
      rw [if_neg n2] at x'
      exact H.mpi k k' _ _ q x x' y1 y2
theorem getElem_pos {α : Type} {l : List α} {j : Nat} {x : α} (h : l[j]? = some x) : j < l.length := (List.getElem?_eq_some_iff.1 h).1
theorem mnew_ok (hcx : True) (H : Pre cx G w st a) {t : TypeId} (ho : o.op = .makeMap t none) {p : Plan} (hp : mnewPlan cx.P t = some p) {id : Nat} {c : C} {st' : St} (hact : act cx id p st = some (c,st')) (d : Place) : OpOK cx.P o a G w st' d c := by
  unfold mnewPlan at hp
  cases hq : mapKT cx.P t with
  | none => rw [hq] at hp; cases hp
  | some kt =>
    rw [hq] at hp
    cases hp
    simp only [act,actH,mnewF,Option.map_some,Option.some.injEq,Prod.mk.injEq] at hact
    obtain ⟨rfl,rfl⟩ := hact
    obtain ⟨W,E⟩ := H.ok.newMap
    refine OpOK.of_run (v := .map (some w.heap.size)) (w' := w.alloc (.map #[] 0)) (by simp [execOp,ho,Instr.makeMap]) ⟨_,⟨?_,by simp,W,E.env H.ok H.env,E.frm H.ok⟩⟩
    simp only [Rep]
    exact ⟨w.heap.size,by simp,rfl⟩
theorem mlook_ok (hmk : ∀ k u,cx.km k u = true → Keyed cx.P k ∧ ∃ l,keyOf cx.P k u = some l) (H : Pre cx G w st a) {t : TypeId} {x y : Operand} {ok : Bool} (ho : o.op = .lookup t x y ok) {p : Plan} (hp : mlookPlan cx t (cx.evn st.env x) (cx.evn st.env y) ok = some p)
    {id : Nat} {c : C} {st' : St} (hact : act cx id p st = some (c,st')) (d : Place) : OpOK cx.P o a G w st' d c := by
  have hx := H.evn x
  have hy := H.evn y
  unfold mlookPlan at hp
  split at hp
  · rename_i b kv hm hk
    cases hp
    rw [hm] at hx
    simp only [Rep] at hx
    obtain ⟨blk,hμ,hxv⟩ := hx
    have hyv := valQ_rep hk hy
    simp only [act,actH,mlookF] at hact
    split at hact
    · rename_i kt et hkt
      have hu := mapKT_spec hkt
      split at hact
      · rename_i hmkk
        obtain ⟨K,lk,hlk⟩ := hmk _ _ hmkk
        cases hmp : st.h.mp b with
        | none => rw [hmp] at hact; cases hact
        | some ents =>
          rw [hmp] at hact
          simp only [Option.bind_some] at hact
          obtain ⟨blk',es,clk,q1,q2,q3⟩ := H.ok.mpo b ents hmp
          rw [hμ] at q1; cases q1
          cases hf : mfind cx kt kv ents 0 with
          | none => rw [hf] at hact; cases hact
          | some r =>
            rw [hf] at hact
            simp only [Option.bind_some,mlookR] at hact
            obtain ⟨g1,g2⟩ := mfind_ok ents es.toList 0 r q3 hf
            have hkeys : ∀ e ∈ es.toList,∃ l,keyOf cx.P kt e.key = some l := fun e he => (hmk _ _ (g1 e he)).2
            cases r with
            | none =>
              simp only at hact g2
              cases hz : zvC cx.P et with
              | none => rw [hz] at hact; cases hact
              | some zc =>
                rw [hz] at hact
                obtain ⟨z,z1,z2,z3⟩ := zvC_spec (w := w) (G := G) hz
                simp only [Option.map_some,Option.some.injEq,Prod.mk.injEq] at hact
                obtain ⟨rfl,rfl⟩ := hact
                rcases K.find w hlk es.toList hkeys with ⟨h1,h2⟩ | ⟨j,e0,h1,h2,h3⟩
                · refine OpOK.pure H (v := if ok then .tuple #[z,.bool false] else z) ?_ ?_ ?_
                  · simp [execOp,ho,hxv,hyv,Instr.lookup,run_underlying hu,MapKept.run_getObj_map q2,K.check w _ hlk,h1,z1,Result.andThen]
                  · cases ok
                    · exact z2
                    · simp only [if_true,Rep]
                      refine ⟨_,rfl,?_⟩
                      simp only [RepL]
                      exact ⟨_,_,rfl,z2,_,_,rfl,rep_val.2 rfl,rfl⟩
                  · cases ok
                    · exact z3
                    · trivial
                · exact absurd h3 (g2 e0 (List.mem_of_getElem? h2))
            | some q =>
              obtain ⟨n,v0⟩ := q
              simp only at hact g2
              obtain ⟨j,e,a1,a2,a3,a4,a5⟩ := g2
              simp only [Option.map_some,Option.some.injEq,Prod.mk.injEq] at hact
              obtain ⟨rfl,rfl⟩ := hact
              rcases K.find w hlk es.toList hkeys with ⟨h1,h2⟩ | ⟨j2,e0,h1,h2,h3⟩
              · exact absurd a3 (h2 e (List.mem_of_getElem? a2))
              · have hj := a5 j2 e0 h2 h3
                subst hj
                rw [a2] at h2; cases h2
                refine OpOK.pure H (v := if ok then .tuple #[e.val,.bool true] else e.val) ?_ ?_ ?_
                · simp [execOp,ho,hxv,hyv,Instr.lookup,run_underlying hu,MapKept.run_getObj_map q2,K.check w _ hlk,h1,Result.andThen]
                · cases ok
                  · exact a4.noR
                  · simp only [if_true,Rep]
                    refine ⟨_,rfl,?_⟩
                    simp only [RepL]
                    exact ⟨_,_,rfl,a4.noR,_,_,rfl,rep_val.2 rfl,rfl⟩
                · cases ok
                  · exact noOwn_noR _
                  · trivial
      · cases hact
    · cases hact
  · cases hp
theorem MRep.set : ∀ {l : List C} {es : List MapEntry} {j : Nat} {e : MapEntry} {x : C},MRep G l es → es[j]? = some e → ∀ e' : MapEntry,e'.key = e.key → Rep G x e'.val → MRep G (l.set (2 * j + 1) x) (es.set j e')
  | [],es,j,e,x,h,hj,e',_,_ => by simp only [MRep] at h; subst h; simp at hj
  | [_],es,j,e,x,h,hj,e',_,_ => by simp [MRep] at h
  | k :: v :: l,es,j,e,x,h,hj,e',hk,hr => by
    simp only [MRep] at h
    obtain ⟨e0,es',rfl,h1,h2,h3⟩ := h
    cases j with
    | zero =>
      simp at hj; subst hj
      show MRep G (k :: x :: l) (e' :: es')
      simp only [MRep]
      exact ⟨e',es',rfl,by rw [hk]; exact h1,hr,h3⟩
    | succ j =>
      have e1 : 2 * (j + 1) + 1 = (2 * j + 1) + 1 + 1 := by omega
      rw [e1,List.set_cons_succ,List.set_cons_succ,List.set_cons_succ]
      simp only [MRep]
      exact ⟨e0,_,rfl,h1,h2,MRep.set h3 (by simpa using hj) e' hk hr⟩
theorem MRep.push : ∀ {l : List C} {es : List MapEntry} {x y : C} {e : MapEntry},MRep G l es → Rep G x e.key → Rep G y e.val → MRep G (l ++ [x,y]) (es ++ [e])
  | [],es,x,y,e,h,h1,h2 => by
    simp only [MRep] at h; subst h
    show MRep G [x,y] [e]
    simp only [MRep]
    exact ⟨e,[],rfl,h1,h2,rfl⟩
  | [_],es,x,y,e,h,_,_ => by simp [MRep] at h
  | k :: v :: l,es,x,y,e,h,h1,h2 => by
    simp only [MRep] at h
    obtain ⟨e0,es',rfl,g1,g2,g3⟩ := h
    show MRep G (k :: v :: (l ++ [x,y])) (e0 :: (es' ++ [e]))
    simp only [MRep]
    exact ⟨e0,_,rfl,g1,g2,MRep.push g3 h1 h2⟩
theorem MRep.del : ∀ {l : List C} {es : List MapEntry} {j : Nat},MRep G l es → MRep G (l.take (2 * j) ++ l.drop (2 * j + 2)) (es.eraseIdx j)
  | [],es,j,h => by simp only [MRep] at h; subst h; simp [MRep]
  | [_],es,j,h => by simp [MRep] at h
  | k :: v :: l,es,j,h => by
    simp only [MRep] at h
    obtain ⟨e0,es',rfl,g1,g2,g3⟩ := h
    cases j with
    | zero => exact g3
    | succ j =>
      have e1 : 2 * (j + 1) = 2 * j + 1 + 1 := by omega
      have e2 : 2 * (j + 1) + 2 = (2 * j + 2) + 1 + 1 := by omega
      rw [e2,e1,List.take_succ_cons,List.take_succ_cons,List.drop_succ_cons,List.drop_succ_cons,List.eraseIdx_cons_succ]
      simp only [List.cons_append,MRep]
      exact ⟨e0,_,rfl,g1,g2,MRep.del g3⟩
theorem mput_ok (hmk : ∀ k u,cx.km k u = true → Keyed cx.P k ∧ ∃ l,keyOf cx.P k u = some l) (H : Pre cx G w st a) {t : TypeId} {m x y : Operand} (ho : o.op = .mapUpdate t m x y) {p : Plan} (hp : mputPlan cx t (cx.evn st.env m) (cx.evn st.env x) (cx.evn st.env y) = some p)
    {id : Nat} {c : C} {st' : St} (hact : act cx id p st = some (c,st')) (d : Place) : OpOK cx.P o a G w st' d c := by
  have hm := H.evn m
  have hx := H.evn x
  have hy := H.evn y
  unfold mputPlan at hp
  split at hp
  · rename_i b kv hme hk
    cases hp
    rw [hme] at hm
    simp only [Rep] at hm
    obtain ⟨blk,hμ,hmv⟩ := hm
    have hxv := valQ_rep hk hx
    simp only [act,actH,mputF] at hact
    split at hact
    · rename_i kt et hkt
      have hu := mapKT_spec hkt
      split at hact
      · rename_i hmkk
        obtain ⟨K,lk,hlk⟩ := hmk _ _ hmkk
        cases hmp : st.h.mp b with
        | none => rw [hmp] at hact; cases hact
        | some ents =>
          rw [hmp] at hact
          simp only [Option.bind_some] at hact
          obtain ⟨blk',es,clk,q1,q2,q3⟩ := H.ok.mpo b ents hmp
          rw [hμ] at q1; cases q1
          cases hf : mfind cx kt kv ents 0 with
          | none => rw [hf] at hact; cases hact
          | some r =>
            rw [hf] at hact
            simp only [Option.map_some,mputR,Option.some.injEq,Prod.mk.injEq] at hact
            obtain ⟨rfl,rfl⟩ := hact
            obtain ⟨g1,g2⟩ := mfind_ok ents es.toList 0 r q3 hf
            have hkeys : ∀ e ∈ es.toList,∃ l,keyOf cx.P kt e.key = some l := fun e he => (hmk _ _ (g1 e he)).2
            cases r with
            | none =>
              simp only at g2 ⊢
              rcases K.find w hlk es.toList hkeys with ⟨h1,h2⟩ | ⟨j,e0,h1,h2,h3⟩
              · obtain ⟨W,F⟩ := H.ok.setMap hmp hμ q2 (ents ++ [.val kv,cx.evn st.env y]) (es.push ⟨kv,a.eval y,clk⟩) (clk + 1) (by rw [Array.toList_push]; exact q3.push (rep_val.2 rfl) hy)
                refine OpOK.of_skip (w' := setBlock w blk (.map (es.push ⟨kv,a.eval y,clk⟩) (clk + 1))) ?_ ⟨G,⟨rep_val.2 rfl,by simp,W,env_setMap q2 H.env,F⟩⟩
                simp [execOp,ho,hmv,hxv,Instr.mapUpdate,run_underlying hu,MapKept.run_getObj_map q2,K.check w _ hlk,h1,MapKept.run_setObj_map _ q2,Result.andThen,setBlock]
              · exact absurd h3 (g2 e0 (List.mem_of_getElem? h2))
            | some q =>
              obtain ⟨n,v0⟩ := q
              simp only at g2 ⊢
              obtain ⟨j,e,a1,a2,a3,a4,a5⟩ := g2
              rw [Nat.zero_add] at a1
              subst a1
              rcases K.find w hlk es.toList hkeys with ⟨h1,h2⟩ | ⟨j2,e0,h1,h2,h3⟩
              · exact absurd a3 (h2 e (List.mem_of_getElem? a2))
              · have hj := a5 j2 e0 h2 h3
                subst hj
                rw [a2] at h2; cases h2
                have hje : es[j2]? = some e := by simpa using a2
                have hlist : (es.modify j2 (fun e' => { e' with key := kv,val := a.eval y })).toList = es.toList.set j2 { e with key := kv,val := a.eval y } := by rw [Array.toList_modify,modify_eq_set _ _ _ _ a2]
                obtain ⟨W,F⟩ := H.ok.setMap hmp hμ q2 (ents.set (2 * j2 + 1) (cx.evn st.env y)) (es.modify j2 (fun e' => { e' with key := kv,val := a.eval y })) clk (by rw [hlist]; exact q3.set a2 _ a3.symm hy)
                refine OpOK.of_skip (w' := setBlock w blk (.map (es.modify j2 (fun e' => { e' with key := kv,val := a.eval y })) clk)) ?_ ⟨G,⟨rep_val.2 rfl,by simp,W,env_setMap q2 H.env,F⟩⟩
                simp [execOp,ho,hmv,hxv,Instr.mapUpdate,run_underlying hu,MapKept.run_getObj_map q2,K.check w _ hlk,h1,hje,a3,K.stays w hlk,MapKept.run_setObj_map _ q2,Result.andThen,setBlock]
      · cases hact
    · cases hact
  · cases hp
theorem mdel_ok (hmk : ∀ k u,cx.km k u = true → Keyed cx.P k ∧ ∃ l,keyOf cx.P k u = some l) (H : Pre cx G w st a) {t t2 : TypeId} {m x : Operand} (ho : o.op = .call { callee := .builtin .delete,args := #[m,x],argTypes := #[t,t2] }) {p : Plan} (hp : mdelPlan cx t (cx.evn st.env m) (cx.evn st.env x) = some p)
    {id : Nat} {c : C} {st' : St} (hact : act cx id p st = some (c,st')) (d : Place) : OpOK cx.P o a G w st' d c := by
  have hm := H.evn m
  have hx := H.evn x
  have hex := run_builtin (P := cx.P) (w := w) (a := a) .delete #[m,x] #[t,t2] (Builtin.delete_ #[t,t2] o.type #[a.eval m,a.eval x]) ho (fun cs => by simp [builtin])
  unfold mdelPlan at hp
  split at hp
  · rename_i b kv hme hk
    cases hp
    rw [hme] at hm
    simp only [Rep] at hm
    obtain ⟨blk,hμ,hmv⟩ := hm
    have hxv := valQ_rep hk hx
    simp only [act,actH,mdelF] at hact
    split at hact
    · rename_i kt et hkt
      have hu := mapKT_spec hkt
      split at hact
      · rename_i hmkk
        obtain ⟨K,lk,hlk⟩ := hmk _ _ hmkk
        cases hmp : st.h.mp b with
        | none => rw [hmp] at hact; cases hact
        | some ents =>
          rw [hmp] at hact
          simp only [Option.bind_some] at hact
          obtain ⟨blk',es,clk,q1,q2,q3⟩ := H.ok.mpo b ents hmp
          rw [hμ] at q1; cases q1
          cases hf : mfind cx kt kv ents 0 with
          | none => rw [hf] at hact; cases hact
          | some r =>
            rw [hf] at hact
            simp only [Option.map_some,mdelR,Option.some.injEq,Prod.mk.injEq] at hact
            obtain ⟨rfl,rfl⟩ := hact
            obtain ⟨g1,g2⟩ := mfind_ok ents es.toList 0 r q3 hf
            have hkeys : ∀ e ∈ es.toList,∃ l,keyOf cx.P kt e.key = some l := fun e he => (hmk _ _ (g1 e he)).2
            cases r with
            | none =>
              simp only at g2 ⊢
              rcases K.find w hlk es.toList hkeys with ⟨h1,h2⟩ | ⟨j,e0,h1,h2,h3⟩
              · obtain ⟨W,F⟩ := H.ok.setMap hmp hμ q2 ents es clk q3
                refine OpOK.of_run (v := .tuple #[]) (w' := setBlock w blk (.map es clk)) ?_ ⟨G,⟨rep_val.2 rfl,by simp,W,env_setMap q2 H.env,F⟩⟩
                rw [hex]
                simp [Builtin.delete_,hmv,hxv,run_underlying hu,MapKept.run_getObj_map q2,K.check w _ hlk,h1,MapKept.run_setObj_map _ q2,Result.andThen,setBlock]
              · exact absurd h3 (g2 e0 (List.mem_of_getElem? h2))
            | some q =>
              obtain ⟨n,v0⟩ := q
              simp only at g2 ⊢
              obtain ⟨j,e,a1,a2,a3,a4,a5⟩ := g2
              rw [Nat.zero_add] at a1
              subst a1
              rcases K.find w hlk es.toList hkeys with ⟨h1,h2⟩ | ⟨j2,e0,h1,h2,h3⟩
              · exact absurd a3 (h2 e (List.mem_of_getElem? a2))
              · have hj := a5 j2 e0 h2 h3
                subst hj
                have hjs : j2 < es.size := by simpa using getElem_pos a2
                have hsub : (es.eraseIdxIfInBounds j2).toList = es.toList.eraseIdx j2 := by
                  unfold Array.eraseIdxIfInBounds
                  rw [dif_pos hjs]
                  simp
                obtain ⟨W,F⟩ := H.ok.setMap hmp hμ q2 (ents.take (2 * j2) ++ ents.drop (2 * j2 + 2)) (es.eraseIdxIfInBounds j2) clk (by rw [hsub]; exact q3.del)
                refine OpOK.of_run (v := .tuple #[]) (w' := setBlock w blk (.map (es.eraseIdxIfInBounds j2) clk)) ?_ ⟨G,⟨rep_val.2 rfl,by simp,W,env_setMap q2 H.env,F⟩⟩
                rw [hex]
                simp [Builtin.delete_,hmv,hxv,run_underlying hu,MapKept.run_getObj_map q2,K.check w _ hlk,h1,MapKept.run_setObj_map _ q2,Result.andThen,setBlock]
      · cases hact
    · cases hact
  · cases hp
end
end Go.Sx
namespace Go.Sx
open Go.RowKit
theorem callsIn_wF {r : Option Nat} {n : Nat} {P : Program} {f : FuncId} {args : Array Value} {w : World} {R : Ending → World → Prop} (h : Calls P f args w R) : CallsIn (wF r) n P f args w R := (callsIn_wide (n := n)).2 h
theorem repZ_len (z : List Value) : ∀ n,(repZero z n).length = n * z.length
  | 0 => by simp [repZero]
  | n + 1 => by simp [repZero,repZ_len z n,Nat.add_mul,Nat.add_comm]
structure CxOK (cx : Cx) : Prop where
  glo : ∀ g,noRef 0 (cx.gl g) = true
  pu : ∀ f args c,cx.pu f args = some c → ∀ h,FC cx.P cx.gl f args h c h
  hp : ∀ f args h c h',cx.hp f args h = some (c,h') → FC cx.P cx.gl f args h c h'
  km : ∀ k u,cx.km k u = true → Go.Maps.Keyed cx.P k ∧ ∃ l,keyOf cx.P k u = some l
section
variable {cx : Cx} {G : Gh} {h : Hp} {w : World} {st : St} {a : Act} {o : Oper} {P : Program}
def hide (G : Gh) : Gh := { G with T := fun g => match G.T g with | some p => if p.1 = 1 then some p else none | none => none }
def back (G : Gh) (n : Nat) (G' : Gh) (d : Place) : Gh :=
  { G' with T := fun g => if g < n ∧ (G.T g ≠ (hide G).T g) then G.T g else match G'.T g with | some p => if p.1 = 1 then some p else if p = (2,0,0) then some d else none | none => none }
theorem hide_le : G.Le (hide G) := ⟨fun _ _ _ x => x,fun _ _ x => x,fun _ _ x => x⟩
theorem hide_none {g : Nat} (h : G.T g = none) : (hide G).T g = none := by simp [hide,h]
theorem hide_one {g : Nat} {b o : Nat} (h : G.T g = some (1,b,o)) : (hide G).T g = some (1,b,o) := by simp [hide,h]
theorem hide_slot {g : Nat} {p : Place} (h : G.T g = some p) (hp : p.1 ≠ 1) : (hide G).T g = none := by simp [hide,h,hp]
theorem hide_ok (H : WorldOK G h w) : WorldOK (hide G) h w := by
  refine ⟨H.known,fun b c hb => ?_,H.dom,H.inj,fun b k hb => ?_,fun g p hg => ?_,fun b cells off s n xs blk v hb hc hm hv => ?_,H.siz,H.mpoT (fun _ _ x => x) (fun _ _ _ x => x) hide_le,H.mpi⟩
  · rcases H.box b c hb with hE | ⟨blk,cs,e,h1,h2,h0,h3,h4⟩
    · exact .inl hE
    · exact .inr ⟨blk,cs,e,h1,h2,h0,h3.mono hide_le,h4⟩
  · obtain ⟨s1,s2⟩ := H.sep b k hb
    exact ⟨s1,hide_none s2⟩
  · cases hq : G.T g with
    | none => rw [hide_none hq] at hg; cases hg
    | some q => exact H.tlt g q hq
  · rcases H.own b cells off s n xs blk v hb hc hm hv with O | ⟨g,cap,cur,e,a1,a2,a3,a4,a5,a6⟩
    · exact .inl O
    · exact .inr ⟨g,cap,cur,e,a1,hide_one a2,a3,a4,a5,a6⟩
theorem back_old {G' : Gh} {w' : World} {h' : Hp} (H : WorldOK G h w) (F : Frm (hide G) w G' w') {g : Nat} (hg : g < w.heap.size) (hne : G.T g ≠ (hide G).T g) :
    w'.heap[g]? = w.heap[g]? ∧ G'.T g = none ∧ (∀ b,G'.μ b ≠ some g) ∧ ∀ o,G'.K g o = G.K g o := by
  obtain ⟨p,hp⟩ : ∃ p,G.T g = some p := by
    cases hq : G.T g with
    | none => rw [hide_none hq,hq] at hne; exact absurd rfl hne
    | some p => exact ⟨p,rfl⟩
  have hp1 : p.1 ≠ 1 := fun e => by
    obtain ⟨p1,b,o⟩ := p
    cases e
    rw [hide_one hp] at hne
    exact hne hp
  have hb : ∀ b,G.μ b ≠ some g := fun b hb => by
    have := (H.sep b g hb).2
    rw [hp] at this; cases this
  exact F.old g hg (hide_slot hp hp1) hb
theorem call_out (H : Pre cx G w st a) {G' : Gh} {w' : World} {h' : Hp} {c : C} {v : Value} (d : Place) (W : WorldOK G' h' w') (F : Frm (hide G) w G' w') (hr : Rep G' c v)
    (ho : ∀ s n xs,c = .sl (.own s) n xs → OwnRow G' w' (2,0,0) v s n) : Out G w ⟨st.env,h'⟩ (av a) d c v (back G w.heap.size G' d) w' := by
  have le0 : G'.Le (back G w.heap.size G' d) := ⟨fun _ _ _ x => x,fun _ _ x => x,fun _ _ x => x⟩
  have le : G.Le (back G w.heap.size G' d) := ⟨F.le.K,F.le.μ,F.le.σ⟩
  have fresh : ∀ g p,G'.T g = some p → ¬ (g < w.heap.size ∧ G.T g ≠ (hide G).T g) := fun g p hg hh => by
    have := (back_old (h' := h') H.ok F hh.1 hh.2).2.1
    rw [hg] at this; cases this
  have own1 : ∀ {b o : Nat} {v' : Value} {s n : Nat},OwnRow G' w' (1,b,o) v' s n → OwnRow (back G w.heap.size G' d) w' (1,b,o) v' s n := by
    intro b o v' s n O
    rcases O with O | ⟨g,cap,cur,e,a1,a2,a3,a4,a5,a6⟩
    · exact .inl O
    · exact .inr ⟨g,cap,cur,e,a1,by simp only [back]; rw [if_neg (fresh g _ a2),a2]; rfl,a3,a4,a5,a6⟩
  refine ⟨hr.mono le0,?_,⟨W.known,fun b cells hb => ?_,W.dom,W.inj,fun b k hb => ?_,fun g p hg => ?_,fun b cells off s n xs blk v' hb hc hm hv => own1 (W.own b cells off s n xs blk v' hb hc hm hv),W.siz,W.mpoT (fun _ _ x => x) (fun _ _ _ x => x) le0,W.mpi⟩,⟨fun t => (H.env.1 t).mono le,fun t s n xs he => ?_⟩,?_⟩
  · intro s n xs e
    rcases ho s n xs e with O | ⟨g,cap,cur,e',a1,a2,a3,a4,a5,a6⟩
    · exact .inl O
    · exact .inr ⟨g,cap,cur,e',a1,by simp only [back]; rw [if_neg (fresh g _ a2),a2]; rfl,a3,a4,a5,a6⟩
  · rcases W.box b cells hb with hE | ⟨blk,cs,e,h1,h2,h0,h3,h4⟩
    · exact .inl hE
    · exact .inr ⟨blk,cs,e,h1,h2,h0,h3.mono le0,h4⟩
  · obtain ⟨s1,s2⟩ := W.sep b k hb
    refine ⟨s1,?_⟩
    simp only [back]
    rw [if_neg]
    · rw [s2]
    · intro hh
      exact (back_old (h' := h') H.ok F hh.1 hh.2).2.2.1 b hb
  · simp only [back] at hg
    split at hg
    · rename_i hh; exact Nat.lt_of_lt_of_le hh.1 F.size
    · cases hq : G'.T g with
      | none => rw [hq] at hg; cases hg
      | some q => exact W.tlt g q hq
  · rcases H.env.2 t s n xs he with O | ⟨g,cap,cur,e',a1,a2,a3,a4,a5,a6⟩
    · exact .inl O
    · have hlt := H.ok.tlt g _ a2
      have hne : G.T g ≠ (hide G).T g := by rw [a2,hide_slot a2 (by simp)]; simp
      obtain ⟨b1,b2,b3,b4⟩ := back_old (h' := h') H.ok F hlt hne
      exact .inr ⟨g,cap,cur,e',a1,by simp only [back]; rw [if_pos ⟨hlt,hne⟩]; exact a2,by rw [b1]; exact a3,a4,fun q hq => by show G'.K g q = none; rw [b4]; exact a5 q hq,b3⟩
  · refine ⟨F.os,F.tape,F.output,F.size,le,fun g hg ht hm => ?_⟩
    obtain ⟨b1,b2,b3,b4⟩ := F.old g hg (hide_none ht) hm
    refine ⟨b1,?_,b3,b4⟩
    simp only [back]
    rw [if_neg (by rw [ht,hide_none ht]; simp),b2]
theorem fc_ok (H : Pre cx G w st a) {f : Operand} {args : Array Operand} {ts : Array TypeId} {g : Nat} {caps : List C} {c : C} {h' : Hp} (ho : o.op = .call { callee := .value f,args,argTypes := ts })
    (hf : cx.evn st.env f = .fn g caps) (hFC : FC cx.P cx.gl g ((args.toList.map (cx.evn st.env)).map C.share ++ caps) st.h c h') (d : Place) : OpOK cx.P o a G w ⟨st.env,h'⟩ d c := by
  have hx := H.evn f
  rw [hf] at hx
  simp only [Rep] at hx
  obtain ⟨cv,hfv,hcaps⟩ := hx
  obtain ⟨⟨fn,e1,e2,e3⟩,hcall⟩ := hFC
  have hrun : (execOp a.eval o).run cx.P w = .ok (.enter g (args.map a.eval ++ cv)) w := by
    have e2' : ¬ fn.name = "runtime.NumGoroutine" := by simpa using e2
    have e3' : ¬ fn.body = none := by cases hq : fn.body <;> simp_all
    simp [execOp,ho,resolve,hfv,Deferred.ofValue,invoke,callFunc,e1,e2',e3',program,Sem.run]
  have hargs : RepL (hide G) ((args.toList.map (cx.evn st.env)).map C.share ++ caps) (args.map a.eval ++ cv).toList := by
    simp only [Array.toList_append,Array.toList_map]
    refine RepL.append ?_ (hcaps.mono hide_le)
    refine RepL.of_get (by simp) fun i x v hxx hv => ?_
    simp only [List.map_map,List.getElem?_map] at hxx hv
    cases hq : args.toList[i]? with
    | none => rw [hq] at hxx; cases hxx
    | some q =>
      rw [hq] at hxx hv
      cases hxx; cases hv
      exact (share_rep (H.evn q)).mono hide_le
  intro r K Q hK
  refine ⟨fun _ _ => trivial,?_⟩
  rw [show (wF r).round = r from rfl,semAt_ok (fun d e => by cases e) hrun]
  simp only [Oper.uponIn]
  refine ⟨(fun h => by cases h),callsIn_wF ?_⟩
  refine (hcall (hide G) w _ (hide_ok H.ok) (fun g p hg => ?_) (fun g => (H.glob g).mono hide_le) hargs).mono ?_
  · simp only [hide] at hg
    cases hq : G.T g with
    | none => rw [hq] at hg; cases hg
    | some q =>
      rw [hq] at hg
      simp only [] at hg
      split at hg
      · cases hg; assumption
      · cases hg
  · rintro e w' ⟨v,G',rfl,q1,q2,q3,q4⟩
    exact hK v _ w' (call_out H d q3 q4 q1 q2)
theorem OpOK.of_val (H : Pre cx G w st a) {d : Place} {s : Sem Value} (hex : (execOp a.eval o).run cx.P w = (s.run cx.P w).andThen fun v w' => .ok (.value v) w') {p : Plan} {id : Nat} {c : C} {st' : St} (hact : act cx id p st = some (c,st'))
    (h : ∃ c v,p = .val c none ∧ c.noOwn ∧ s.run cx.P w = .ok v w ∧ Rep G c v) : OpOK cx.P o a G w st' d c := by
  obtain ⟨c',v,rfl,hno,hrun,hr⟩ := h
  simp only [act,actH] at hact
  cases hact
  exact OpOK.pure H (by rw [hex,hrun]; rfl) hr hno
theorem append_ok (H : Pre cx G w st a) {t t2 : TypeId} {x y : Operand} {p : Plan} (ho : o.op = .call { callee := .builtin .append,args := #[x,y],argTypes := #[t,t2] })
    {yc : C} (hy : Rep G yc.it (a.eval y)) (hp : appendPlan cx.P t t2 (cx.ev st.env x) yc.it (tmp? x) = some p) {id : Nat} {c : C} {st' : St} (hact : act cx id p st = some (c,st')) (d : Place) : OpOK cx.P o a G w st' d c := by
  have hx := H.ev x
  have hex := run_builtin (P := cx.P) (w := w) (a := a) .append #[x,y] #[t,t2] (Builtin.append_ #[t,t2] o.type #[a.eval x,a.eval y]) ho (fun cs => by simp [builtin])
  unfold appendPlan at hp
  split at hp
  · cases hp
  · cases hp
  rename_i dt d2 hd hd2
  split at hp
  · cases hp
  rename_i hn2
  split at hp
  · rename_i e hu
    split at hp
    · cases hp
    rename_i de he
    simp only [] at hp
    have start : ∀ n xs k,(match cx.ev st.env x with
        | .val (.slice none 0 0) => some (0,[],none)
        | .sl .full n xs => some (n,xs,none)
        | .sl (.own s) n xs => if s = de.size then some (n,xs,tmp? x) else none
        | _ => none) = some (n,xs,k) →
        ∃ b cap,a.eval x = .slice b n cap ∧ n ≤ cap ∧ cap ≤ maxLen ∧ (xs = [] ∨ ∃ blk off,b = some ⟨blk,off,none⟩ ∧ RepK G blk off xs) ∧ (cap = n ∨ ∃ q,k = some q ∧ OwnRow G w (0,q,0) (.slice b n cap) de.size n) := by
      intro n xs k hs
      split at hs
      · rename_i hc
        cases hs
        rw [hc,rep_val] at hx
        exact ⟨none,0,hx,Nat.le_refl _,Nat.zero_le _,.inl rfl,.inl rfl⟩
      · rename_i n' xs' hc
        cases hs
        rw [hc] at hx
        simp only [Rep] at hx
        obtain ⟨b,cap,h1,h2,h3,h4,h5⟩ := hx
        exact ⟨b,cap,h1,h2,h3,h5,.inl (h4 trivial)⟩
      · rename_i s n' xs' hc
        split at hs
        · rename_i hsz
          cases hs
          have hx0 := hx
          rw [hc] at hx
          simp only [Rep] at hx
          obtain ⟨b,cap,h1,h2,h3,h4,h5⟩ := hx
          refine ⟨b,cap,h1,h2,h3,h5,?_⟩
          cases x with
          | tmp q =>
            have := H.env.2 q _ _ _ hc
            have hv : av a q = .slice b n cap := h1
            rw [hv] at this
            exact .inr ⟨q,rfl,hsz ▸ this⟩
          | const v => cases hc
          | global g => exact (noR_own hc).elim
          | func f => cases hc
        · cases hs
      · cases hs
    split at hp
    · cases hp
    rename_i n xs k hs
    obtain ⟨b,cap,hxv,hnc,hcm,hk,hst⟩ := start n xs k hs
    split at hp
    · rename_i b' off m hyc
      split at hp
      · cases hp
        simp only [act,actH] at hact
        cases hb : st.h.at b' with
        | none => rw [hb] at hact; cases hact
        | some cells =>
          rw [hb] at hact
          simp only [Option.bind_some] at hact
          split at hact
          · rename_i hoff
            split at hact
            · rename_i hf
              simp only [Option.map_some,Option.some.injEq,Prod.mk.injEq] at hact
              obtain ⟨rfl,rfl⟩ := hact
              rw [hyc] at hy
              obtain ⟨news,n1,n2,n3⟩ := sv_src (P := cx.P) H.ok hb hoff hy
              obtain ⟨v,w',G',r1,r2⟩ := append_core H d (ty := o.type) hd hu he hd2 (by simpa using hn2) hnc hcm hk hst (by rw [n1,hf.2.1]) n2 n3 hf.1 hf.2.1 hf.2.2.1 hf.2.2.2.1 hf.2.2.2.2.1 hf.2.2.2.2.2
              rw [Hp.set_same hb]
              exact OpOK.of_run (by rw [hex,hxv,r1]; rfl) ⟨G',r2⟩
            · cases hact
          · cases hact
      · rename_i hkn
        have hk0 : k = none := by cases k with | none => rfl | some q => simp at hkn
        subst hk0
        cases hp
        simp only [act,actH] at hact
        cases hb : st.h.at b' with
        | none => rw [hb] at hact; cases hact
        | some cells =>
          rw [hb] at hact
          simp only [Option.bind_some] at hact
          split at hact
          · rename_i hoff
            split at hact
            · rename_i hf
              cases hact
              rw [hyc] at hy
              obtain ⟨news,n1,n2,n3⟩ := sv_src (P := cx.P) H.ok hb hoff hy
              obtain ⟨v,w',G',r1,r2⟩ := append_core H d (ty := o.type) hd hu he hd2 (by simpa using hn2) hnc hcm hk hst (by rw [n1,hf.2.1]) n2 n3 hf.1 hf.2.1 hf.2.2.1 hf.2.2.2.1 hf.2.2.2.2.1 hf.2.2.2.2.2
              exact OpOK.of_run (by rw [hex,hxv,r1]; rfl) ⟨G',r2⟩
            · cases hact
          · cases hact
    · rename_i hnsv
      split at hp
      · rename_i m ys hsrc
        split at hp
        · rename_i hf
          cases hp
          simp only [act,actH] at hact
          cases hact
          obtain ⟨news,n1,n2,n3⟩ := src_ok (P := cx.P) H.ok hsrc hf.2.1 hy
          obtain ⟨v,w',G',r1,r2⟩ := append_core H d (ty := o.type) hd hu he hd2 (by simpa using hn2) hnc hcm hk hst n1 n2 n3 hf.1 hf.2.1 hf.2.2.1 hf.2.2.2.1 hf.2.2.2.2.1 hf.2.2.2.2.2
          exact OpOK.of_run (by rw [hex,hxv,r1]; rfl) ⟨G',r2⟩
        · cases hp
      · cases hp
  · cases hp
theorem splan_ok (hcx : CxOK cx) (H : Pre cx G w st a) {ops : Array Oper} {p : Plan} (hp : splan cx ops o st.env = some p) {id : Nat} {c : C} {st' : St} (hact : act cx id p st = some (c,st')) (d : Place) :
    OpOK cx.P o a G w st' d c := by
  unfold splan at hp
  simp only [] at hp
  split at hp
  · -- move
    rename_i x ho
    split at hp
    · rename_i q
      cases hp
      have hrun : (execOp a.eval o).run cx.P w = .ok (.value (a.eval (.tmp q))) w := by simp only [execOp,ho,Sem.run_pure]
      split at hact
      · simp only [act,actH] at hact
        cases hact
        exact OpOK.move H (x := .tmp q) rfl hrun
      · simp only [act,actH,Plan.pure] at hact
        cases hact
        exact OpOK.pure H hrun (H.env.1 q).noR (noOwn_noR _)
    · cases hp
      simp only [act,actH,Plan.pure] at hact
      cases hact
      exact OpOK.pure H (by simp only [execOp,ho,Sem.run_pure]) (H.evn x) (noOwn_noR _)
  · -- assign
    rename_i x ho
    cases hp
    simp only [act,actH] at hact
    cases hact
    exact OpOK.move H rfl (by simp only [execOp,ho,Sem.run_pure])
  · -- pick
    rename_i b x y ho
    have hb := H.evn b
    split at hp
    · rename_i hc
      cases hp
      simp only [act,actH,Plan.pure] at hact
      cases hact
      rw [hc,rep_val] at hb
      exact OpOK.pure H (v := a.eval x) (by simp [execOp,ho,hb,asBool]) (H.evn x) (noOwn_noR _)
    · rename_i hc
      cases hp
      simp only [act,actH,Plan.pure] at hact
      cases hact
      rw [hc,rep_val] at hb
      exact OpOK.pure H (v := a.eval y) (by simp [execOp,ho,hb,asBool]) (H.evn y) (noOwn_noR _)
    · cases hp
  · -- alloc
    rename_i t ho
    split at hp
    · rename_i dt hd
      split at hp
      · rename_i hz1
        cases hp
        simp only [act,actH] at hact
        split at hact
        · rename_i hid
          cases hact
          obtain ⟨_,i,z,hi,_,_,hz,hzz⟩ := td_spec hd
          refine OpOK.new H hid (vs := z.cells) (e := t) (v := .pointer (some ⟨w.heap.size,0,none⟩)) ?_ (zero_rep hzz) (fun u hu => by rw [hzz] at hu; exact (List.all_eq_true.1 hz1) u hu) ?_ (fun G' hG hs => by split; all_goals simp only [Rep]; all_goals first | exact ⟨_,hG,rfl⟩ | exact ⟨_,hG,rfl,by rw [hs]; exact congrArg some (congrArg (·,t) (by rw [← hzz]; simp))⟩) (by split <;> trivial)
          · simp [execOp,ho,Instr.alloc,zeroValue,typeInfo,hi,hz,newVar,newRow]
          · intro x hx
            obtain ⟨v,_,rfl⟩ := List.mem_map.1 hx
            trivial
        · cases hact
      · cases hp
    · cases hp
  · -- box
    rename_i t x ho
    cases hcs : (cx.evn st.env x).cells? with
    | none => rw [hcs] at hp; cases hp
    | some cs =>
      rw [hcs] at hp
      cases hp
      simp only [act,actH] at hact
      split at hact
      · rename_i hid
        cases hact
        obtain ⟨r1,r2⟩ := cells?_rep hcs (H.evn x)
        refine OpOK.new H hid (vs := (a.eval x).cells) (e := t) (v := .pointer (some ⟨w.heap.size,0,none⟩)) ?_ r1 r2 (cells?_noOwn hcs) (fun G' hG _ => by simp only [Rep]; exact ⟨_,hG,rfl⟩) trivial
        simp [execOp,ho,Instr.box,newVar,newRow]
      · cases hact
  · -- build
    rename_i t parts ho
    split at hp
    · rename_i dt hd
      split at hp
      · cases hp
      rename_i hz1
      cases hb : ((places cx.P dt.u).bind fun pl => lay pl (dt.zero.map .val) (parts.toList.map fun x => (x.1,cx.evn st.env x.2))) with
      | none => rw [hb] at hp; cases hp
      | some cs =>
        rw [hb] at hp
        cases hp
        simp only [act,actH,Plan.pure] at hact
        cases hact
        obtain ⟨v,v1,v2⟩ := build_ok H hd (by simpa using hz1) hb
        exact OpOK.pure H (by simp only [execOp,ho,Sem.run_bind,v1,Result.andThen_ok,Sem.run_pure]) v2 trivial
    · cases hp
  · -- buildSlice
    rename_i t n parts ho
    split at hp
    · rename_i dt hd
      split at hp
      · rename_i e hu
        split at hp
        · rename_i de he
          split at hp
          · rename_i hn
            cases hb : lay (fun i => some (i * de.size,de.size)) (repZero de.zero n) (parts.toList.map fun x => (x.1,cx.evn st.env x.2)) with
            | none => rw [hb] at hp; cases hp
            | some cs =>
              rw [hb] at hp
              simp only [Option.map_some,Option.some.injEq] at hp
              split at hp
              · cases hp
                simp only [act,actH,Option.bind_some,Option.map_some,Option.some.injEq,Prod.mk.injEq] at hact
                obtain ⟨rfl,rfl⟩ := hact
                obtain ⟨v,w',G',v1,v2⟩ := buildG_ok H d hd hu he hn.2.2.2 ⟨hn.1,hn.2.1,hn.2.2.1⟩ hb
                exact OpOK.of_run (by simp only [execOp,ho,Sem.run_bind,v1,Result.andThen_ok,Sem.run_pure]) ⟨G',v2⟩
              cases hp
              simp only [act,actH,Plan.pure] at hact
              cases hact
              obtain ⟨v,w',G',v1,v2⟩ := buildSlice_ok H d hd hu he hn.2.2.2 ⟨hn.1,hn.2.1,hn.2.2.1⟩ hb
              exact OpOK.of_run (by simp only [execOp,ho,Sem.run_bind,v1,Result.andThen_ok,Sem.run_pure]) ⟨G',v2⟩
          · cases hp
        · cases hp
      · cases hp
    · cases hp
  · -- load
    rename_i t x ho
    exact load_ok H ho hp hact d
  · -- store
    rename_i t x y ho
    exact store_ok H ho hp hact d
  · -- nilCheck
    rename_i x ho
    have hx := H.evn x
    split at hp
    · rename_i b k hc
      cases hp
      simp only [act,actH,Plan.pure] at hact
      cases hact
      rw [hc] at hx
      have hx' := hx
      simp only [Rep] at hx
      obtain ⟨blk,_,hv⟩ := hx
      exact OpOK.pure H (v := a.eval x) (by simp [execOp,ho,hv]) hx' trivial
    · rename_i xs hc
      cases hp
      simp only [act,actH,Plan.pure] at hact
      cases hact
      rw [hc] at hx
      have hx' := hx
      simp only [Rep] at hx
      obtain ⟨blk,hv,hv2,_⟩ := hx
      exact OpOK.pure H (v := a.eval x) (by simp [execOp,ho,hv2]) hx' trivial
    · rename_i cs hc
      cases hp
      simp only [act,actH,Plan.pure] at hact
      cases hact
      rw [hc] at hx
      have hx' := hx
      simp only [Rep] at hx
      obtain ⟨blk,off,hv,_⟩ := hx
      exact OpOK.pure H (v := a.eval x) (by simp [execOp,ho,hv]) hx' trivial
    · rename_i f cs hc
      cases hp
      simp only [act,actH,Plan.pure] at hact
      cases hact
      rw [hc] at hx
      have hx' := hx
      simp only [Rep] at hx
      obtain ⟨vs,hv,_⟩ := hx
      exact OpOK.pure H (v := a.eval x) (by simp [execOp,ho,hv]) hx' trivial
    · cases hp
  · -- binOp
    rename_i op t x y yt ho
    exact OpOK.of_val H (s := (do eqGuard op t x y (a.eval x) (a.eval y); binOp op t (a.eval x) (a.eval y))) (by simp only [execOp,ho,Sem.run_bind,Sem.run_pure]) hact (binPlan_ok x y (H.evn x) (H.evn y) hp)
  · -- unOp
    rename_i op t x ho
    exact OpOK.of_val H (s := Op.unary op (a.eval x)) (by simp only [execOp,ho,Sem.run_bind,Sem.run_pure]) hact (unPlan_ok (H.evn x) hp)
  · -- convert
    rename_i s t x ho
    split at hp
    · exact convG_ok H ho hp hact d
    · exact conv_ok H ho (asSv_rep (H.evn x)) hp hact d
  · -- sliceToArrayPointer
    rename_i t x ho
    have hx := H.evn x
    split at hp
    · rename_i dt hd
      split at hp
      · rename_i n e hu
        split at hp
        · rename_i de b off m he hc
          split at hp
          · rename_i hn
            cases hp
            simp only [act,actH,Plan.pure] at hact
            cases hact
            rw [hc] at hx
            simp only [Rep] at hx
            obtain ⟨ad,cap,hv,hmc,_,had⟩ := hx
            obtain ⟨blk,hμ,had'⟩ := had (by omega)
            subst had'
            refine OpOK.pure H (v := .pointer (some ⟨blk,off,none⟩)) ?_ (by simp only [Rep]; exact ⟨blk,hμ,rfl⟩) trivial
            have hlt : ¬ (m < n) := by omega
            simp [execOp,ho,hv,Instr.arrayAt,run_und hd,hu,hlt]
          · cases hp
        · rename_i de b m s he hc
          split at hp
          · rename_i hn
            cases hp
            simp only [act,actH,Plan.pure] at hact
            cases hact
            rw [hc] at hx
            simp only [Rep] at hx
            obtain ⟨ad,cap,hv,hmc,_,hdj⟩ := hx
            rcases hdj with ⟨h0,_⟩ | ⟨blk,hμ,had',_⟩
            · omega
            subst had'
            refine OpOK.pure H (v := .pointer (some ⟨blk,0,none⟩)) ?_ (by simp only [Rep]; exact ⟨blk,hμ,rfl⟩) trivial
            have hlt : ¬ (m < n) := by omega
            simp [execOp,ho,hv,Instr.arrayAt,run_und hd,hu,hlt]
          · cases hp
        · rename_i de cc he hnsv hngv
          split at hp
          · rename_i m xs hsl
            split at hp
            · rename_i hn
              cases hp
              simp only [act,actH,Plan.pure] at hact
              cases hact
              obtain ⟨ad,cap,hv,_,_,hk⟩ := sl?_rep hsl hx
              rcases hk with hk | ⟨blk,off,rfl,hk⟩
              · exact absurd hk hn.2.1
              refine OpOK.pure H (v := .pointer (some ⟨blk,off,none⟩)) ?_ (by simp only [Rep]; exact ⟨blk,off,rfl,hk⟩) trivial
              have hlt : ¬ (m < n) := by omega
              simp [execOp,ho,hv,Instr.arrayAt,run_und hd,hu,hlt]
            · cases hp
          · cases hp
        · cases hp
      · cases hp
    · cases hp
  · -- makeFunc
    rename_i f first caps ho
    split at hp
    · rename_i hfe
      cases hp
      simp only [act,actH,Plan.pure] at hact
      cases hact
      have hf0 : first = #[] := by simpa using hfe
      refine OpOK.pure H (v := .func (.func f) #[] (caps.map a.eval)) (by simp [execOp,ho,Instr.makeFunc,hf0]) ?_ trivial
      simp only [Rep]
      refine ⟨_,rfl,RepL.of_get (by simp) fun i x v hxx hv => ?_⟩
      simp only [Array.toList_map,List.getElem?_map] at hxx hv
      cases hq : caps.toList[i]? with
      | none => rw [hq] at hxx; cases hxx
      | some q =>
        rw [hq] at hxx hv
        cases hxx; cases hv
        exact share_rep (H.evn q)
    · cases hp
  · -- makeSlice
    rename_i t l m ho
    split at hp
    · rename_i dt k1 n k2 m' hd hl hm
      split at hp
      · rename_i e hu
        split at hp
        · rename_i de he
          split at hp
          · rename_i hb
            cases hp
            simp only [act,actH] at hact
            split at hact
            · rename_i hid
              cases hact
              obtain ⟨_,i,z,hi,hsz,hby,hz,hzz⟩ := td_spec he
              obtain ⟨b1,b2,b3,b4,b5,b6⟩ := hb
              have hzs : z.cells.size = de.size := by rw [← b5,← hzz]; simp
              have hlv := int?_rep hl (H.evn l)
              have hmv := int?_rep hm (H.evn m)
              have hz1' : ∀ u ∈ z.cells.toList,u.oneCell' = true := fun u hu => by rw [hzz] at hu; exact (List.all_eq_true.1 b6) u hu
              subst b2
              have hrun := run_make (P := cx.P) w t e i z (hu ▸ (td_spec hd).1) hi hz k1 k2 n n b1 (Int.le_refl _) (by rw [hby]; omega) b4
              have hml : maxLen = 9223372036854775807 := by decide
              refine OpOK.new H hid (vs := madeCells z.cells (n.toNat * i.size)) (e := e) (v := .slice (some ⟨w.heap.size,0,none⟩) n.toNat n.toNat) ?_ (by rw [hsz,← hzs]; exact repZero_rep z.cells de.zero hzz _) (by rw [hsz,← hzs]; exact made_one z.cells hz1' _) ?_
                (fun G' hG hS => by
                  split
                  · simp only [Rep]
                    exact ⟨_,_,rfl,Nat.le_refl _,by omega,.inr ⟨w.heap.size,hG,rfl,by rw [hS]; exact congrArg some (congrArg (·,e) (by rw [← Array.length_toList,hsz,← hzs,← (repZero_rep (G := G) z.cells de.zero hzz n.toNat).length,repZ_len,b5,hzs]))⟩⟩
                  · simp only [Rep]; exact ⟨_,_,rfl,Nat.le_refl _,by omega,fun _ => ⟨w.heap.size,hG,rfl⟩⟩) (by split <;> trivial)
              · simp only [execOp,ho,hlv,hmv,Sem.run_bind,hrun,Result.andThen_ok,Sem.run_pure]
              · intro x hx
                have : ∀ q,∀ x ∈ repZero de.zero q,x.noOwn := by
                  intro q
                  induction q with
                  | zero => intro x hx; simp [repZero] at hx
                  | succ q ih =>
                    intro x hx
                    simp only [repZero,List.mem_append] at hx
                    rcases hx with hx | hx
                    · obtain ⟨v,_,rfl⟩ := List.mem_map.1 hx; trivial
                    · exact ih x hx
                exact this _ x hx
            · cases hact
          · cases hp
        · cases hp
      · cases hp
    · cases hp
  · -- slice
    rename_i t x lo hi mx ho
    split at hp
    · rename_i b n s hc
      have hx := H.evn x
      rw [hc] at hx
      exact OpOK.of_val H (s := Instr.sliceAt t (a.eval x) none (hi.map a.eval) none) (by simp only [execOp,ho,Sem.run_bind,Sem.run_pure]; rfl) hact (sliceG_ok H hx hp)
    · rename_i lo mx _ _ _ _
      exact OpOK.of_val H (s := Instr.sliceAt t (a.eval x) (lo.map a.eval) (hi.map a.eval) (mx.map a.eval)) (by simp only [execOp,ho,Sem.run_bind,Sem.run_pure]) hact (slicePlan_ok H (asSv_rep (H.evn x)) hp)
  · -- fieldAddr
    rename_i t x f ho
    exact OpOK.of_val H (s := Instr.fieldAt t (a.eval x) f) (by simp only [execOp,ho,Sem.run_bind,Sem.run_pure]) hact (fieldAddrPlan_ok (H.evn x) hp)
  · -- field
    rename_i t x f ho
    exact OpOK.of_val H (s := Instr.field t (a.eval x) f) (by simp only [execOp,ho,Sem.run_bind,Sem.run_pure]) hact (fieldPlan_ok (H.evn x) hp)
  · -- indexAddr
    rename_i t x i ho
    exact OpOK.of_val H (s := Instr.indexAt t (a.eval x) (a.eval i)) (by simp only [execOp,ho,Sem.run_bind,Sem.run_pure]) hact (indexAddrPlan_ok (asSv_rep (H.evn x)) (H.evn i) hp)
  · -- index
    rename_i t x i ho
    exact OpOK.of_val H (s := Instr.index t (a.eval x) (a.eval i)) (by simp only [execOp,ho,Sem.run_bind,Sem.run_pure]) hact (indexPlan_ok (H.evn x) (H.evn i) hp)
  · -- extract
    rename_i x i ho
    have hx := H.evn x
    split at hp
    · rename_i xs hc
      cases hq : xs[i]? with
      | none => rw [hq] at hp; cases hp
      | some y =>
        rw [hq] at hp
        cases hp
        simp only [act,actH,Plan.pure] at hact
        cases hact
        rw [hc] at hx
        simp only [Rep] at hx
        obtain ⟨vs,hv,hr⟩ := hx
        obtain ⟨u,hu,hru⟩ := hr.get i y hq
        have hu' : vs[i]? = some u := by simpa using hu
        exact OpOK.pure H (v := u) (by simp [execOp,ho,hv,Instr.extract,hu']) hru.noR (noOwn_noR _)
    · cases hp
  · -- call
    rename_i cl ho
    obtain ⟨callee,args,ts⟩ := cl
    simp only [] at hp ho
    split at hp
    · split at hp
      · rename_i x t ha ht
        obtain rfl : args = #[x] := by apply Array.ext'; simpa using ha
        obtain rfl : ts = #[t] := by apply Array.ext'; simpa using ht
        exact OpOK.of_val H (run_builtin (P := cx.P) (w := w) (a := a) .len #[x] #[t] (Builtin.len_ #[t] o.type #[a.eval x]) ho (fun cs => by simp [builtin])) hact (lenPlan_ok (asSv_rep (H.evn x)) hp)
      · rename_i x y t t2 ha ht
        obtain rfl : args = #[x,y] := by apply Array.ext'; simpa using ha
        obtain rfl : ts = #[t,t2] := by apply Array.ext'; simpa using ht
        split at hp
        · exact grow_ok H ho (asSv_rep (H.evn y)) hp hact d
        · exact append_ok H ho (asSv_rep (H.evn y)) hp hact d
      · rename_i x y t t2 ha ht
        obtain rfl : args = #[x,y] := by apply Array.ext'; simpa using ha
        obtain rfl : ts = #[t,t2] := by apply Array.ext'; simpa using ht
        exact copy_ok H ho (asSv_rep (H.evn x)) (asSv_rep (H.evn y)) hp hact d
      · rename_i x y ha
        obtain rfl : args = #[x,y] := by apply Array.ext'; simpa using ha
        unfold minMax at hp
        split at hp
        · rename_i k p1 k' p2 h1 h2
          split at hp
          · rename_i hk
            subst hk
            cases hp
            simp only [act,actH,Plan.pure] at hact
            cases hact
            have r1 := H.evn x
            have r2 := H.evn y
            rw [h1,rep_val] at r1
            rw [h2,rep_val] at r2
            refine OpOK.pure H ?_ (rep_val.2 rfl) trivial
            rw [run_builtin (P := cx.P) (w := w) (a := a) .min #[x,y] ts (Builtin.min_ ts o.type #[a.eval x,a.eval y]) ho (fun cs => by simp [builtin]),r1,r2]
            simp [Builtin.min_,Builtin.min2]
          · cases hp
        · cases hp
      · rename_i x y ha
        obtain rfl : args = #[x,y] := by apply Array.ext'; simpa using ha
        unfold minMax at hp
        split at hp
        · rename_i k p1 k' p2 h1 h2
          split at hp
          · rename_i hk
            subst hk
            cases hp
            simp only [act,actH,Plan.pure] at hact
            cases hact
            have r1 := H.evn x
            have r2 := H.evn y
            rw [h1,rep_val] at r1
            rw [h2,rep_val] at r2
            refine OpOK.pure H ?_ (rep_val.2 rfl) trivial
            rw [run_builtin (P := cx.P) (w := w) (a := a) .max #[x,y] ts (Builtin.max_ ts o.type #[a.eval x,a.eval y]) ho (fun cs => by simp [builtin]),r1,r2]
            simp [Builtin.max_,Builtin.max2]
          · cases hp
        · cases hp
      · rename_i x y t t2 ha ht
        obtain rfl : args = #[x,y] := by apply Array.ext'; simpa using ha
        obtain rfl : ts = #[t,t2] := by apply Array.ext'; simpa using ht
        exact mdel_ok hcx.km H ho hp hact d
      · cases hp
    · rename_i f
      unfold callPlan at hp
      split at hp
      · rename_i g caps hf
        simp only [] at hp
        split at hp
        · rename_i c' hpu
          cases hp
          simp only [act,actH,Plan.pure] at hact
          cases hact
          exact fc_ok H ho hf (hcx.pu _ _ _ hpu st.h) d
        · split at hp
          rename_i b hrb
          split at hp
          case h_1.isFalse =>
            cases hp
            simp only [act,actH] at hact
            cases hq : st.h.at b with
            | none => rw [hq] at hact; cases hact
            | some cells =>
              rw [hq] at hact
              simp only [Option.bind_some] at hact
              cases hr : rdPu cx g (List.map C.share (List.map (cx.evn st.env) args.toList) ++ caps) b cells with
              | none => rw [hr] at hact; cases hact
              | some c2 =>
                rw [hr] at hact
                cases hact
                exact fc_ok H ho hf (FC.rdPu hcx.pu hcx.glo hq hr) d
          rotate_left
          split at hp
          case h_2.isTrue =>
            cases hp
            simp only [act,actH] at hact
            cases hq : st.h.at 0 with
            | none => rw [hq] at hact; cases hact
            | some cells =>
              rw [hq] at hact
              simp only [Option.bind_some] at hact
              cases hr : rdE cx g (List.map C.share (List.map (cx.evn st.env) args.toList) ++ caps) 0 cells with
              | none => rw [hr] at hact; cases hact
              | some c2 =>
                rw [hr] at hact
                cases hact
                exact fc_ok H ho hf (FC.rdE hcx.pu hcx.glo hq hr) d
          all_goals
          cases hp
          simp only [act,actH] at hact
          cases hq : cx.hp g (List.map C.share (List.map (cx.evn st.env) args.toList) ++ caps) st.h with
          | none => rw [hq] at hact; cases hact
          | some r =>
            rw [hq] at hact
            cases hact
            exact fc_ok H ho hf (hcx.hp _ _ _ _ _ hq) d
      · cases hp
    · cases hp
  · rename_i t ho
    exact mnew_ok trivial H ho hp hact d
  · rename_i t x k ok ho
    exact mlook_ok hcx.km H ho hp hact d
  · rename_i t m k x ho
    exact mput_ok hcx.km H ho hp hact d
  · cases hp
end
end Go.Sx
