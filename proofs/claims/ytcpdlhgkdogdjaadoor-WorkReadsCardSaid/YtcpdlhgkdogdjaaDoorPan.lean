/-
   And what follows.
-/
import Derived.Test.YtcpdlhgkdogdjaaDoorProg
import Derived.KernelRfl
import Derived.Test.YtcpdlhgkdogdjaaDoorPam
import Derived.Test.YtcpdlhgkdogdjaaDoorPak
import Derived.Test.YtcpdlhgkdogdjaaDoorPal
set_option linter.unusedSimpArgs false
set_option linter.unusedVariables false
namespace Go.Sx
open Go.RowKit
def bindE : List Nat → List C → (Nat → C) → (Nat → C)
  | p :: ps,c :: az,env => bindE ps az (put (some p) c.noR env)
  | _,_,env => env
theorem bind_ok {G : Gh} : ∀ (ps : List Nat) (az : List C) (vs : List Value) (env : Nat → C) (tm : Array Value),RepL G az vs → az.length = ps.length → (∀ p ∈ ps,p < tm.size) → (∀ t,Rep G (env t) (tm.getD t undef)) → (∀ t s n xs,env t ≠ .sl (.own s) n xs) →
    ((ps.zip vs).foldl (fun tm (p : Nat × Value) => tm.setIfInBounds p.1 p.2) tm).size = tm.size ∧ (∀ t,Rep G (bindE ps az env t) (((ps.zip vs).foldl (fun tm (p : Nat × Value) => tm.setIfInBounds p.1 p.2) tm).getD t undef)) ∧ ∀ t s n xs,bindE ps az env t ≠ .sl (.own s) n xs
  | [],[],vs,env,tm,_,_,_,h1,h2 => ⟨rfl,h1,h2⟩
  | [],c :: az,vs,env,tm,_,hl,_,_,_ => by simp at hl
  | p :: ps,[],vs,env,tm,_,hl,_,_,_ => by simp at hl
  | p :: ps,c :: az,vs,env,tm,hr,hl,hp,h1,h2 => by
    simp only [RepL] at hr
    obtain ⟨v,vs',rfl,hv,hr'⟩ := hr
    have hpp : p < tm.size := hp p (List.mem_cons_self ..)
    have := bind_ok ps az vs' (put (some p) c.noR env) (tm.setIfInBounds p v) hr' (by simpa using hl) (fun q hq => by rw [Array.size_setIfInBounds]; exact hp q (List.mem_cons_of_mem _ hq)) (fun t => by
      simp only [put]
      by_cases e : t = p
      · subst e; simp only [if_true]; rw [Array.getD_eq_getD_getElem?]; simp [hpp]; exact hv.noR
      · rw [if_neg e,Array.getD_eq_getD_getElem?,Array.getElem?_setIfInBounds_ne (Ne.symm e),← Array.getD_eq_getD_getElem?]; exact h1 t) (fun t s n xs => by
      simp only [put]
      split
      · exact fun q => noR_own q
      · exact h2 t s n xs)
    simp only [List.zip_cons_cons,List.foldl_cons,bindE]
    rw [Array.size_setIfInBounds] at this
    exact this
theorem WorldOK.grown {G : Gh} {h : Hp} {w w' : World} (W : WorldOK G h w) (hs : w.heap.size ≤ w'.heap.size) (hh : ∀ g,g < w.heap.size → w'.heap[g]? = w.heap[g]?) : WorldOK G h w' := by
  have hk : ∀ {g : Nat} {o : Obj},w.heap[g]? = some o → w'.heap[g]? = some o := fun {g o} q => (hh g (Array.getElem?_eq_some_iff.1 q).1).trans q
  have hμ : ∀ {b g : Nat},G.μ b = some g → w'.heap[g]? = w.heap[g]? := fun {b g} q => hh g (W.dom b g q).2
  have row : ∀ {p : Place} {v : Value} {s n : Nat},OwnRow G w p v s n → OwnRow G w' p v s n := by
    intro p v s n O
    rcases O with O | ⟨g,cap,cur,e,a1,a2,a3,a4⟩
    · exact .inl O
    · exact .inr ⟨g,cap,cur,e,a1,a2,hk a3,a4⟩
  refine ⟨fun b o u hu => ?_,fun b cells hb => ?_,fun b blk hb => ⟨(W.dom b blk hb).1,Nat.lt_of_lt_of_le (W.dom b blk hb).2 hs⟩,W.inj,W.sep,fun g p hg => Nat.lt_of_lt_of_le (W.tlt g p hg) hs,fun b cells off s n xs blk v hb hc hm hv => ?_,fun b z hz => ?_,fun b l hb => ?_,W.mpi⟩
  · have := W.known b o u hu
    unfold World.cell? at this ⊢
    cases ho : w.heap[b]? with
    | none => rw [ho] at this; cases this
    | some ob => rw [ho] at this; rw [hk ho]; exact this
  · rcases W.box b cells hb with q | ⟨blk,cs,e,h1,h2,h3⟩
    · exact .inl q
    · exact .inr ⟨blk,cs,e,h1,by rw [hμ h1]; exact h2,h3⟩
  · refine row (W.own b cells off s n xs blk v hb hc hm ?_)
    unfold World.cell? at hv ⊢
    rw [hμ hm] at hv
    exact hv
  · obtain ⟨blk,cs,e,fr,h1,h2,h3⟩ := W.siz b z hz
    exact ⟨blk,cs,e,fr,h1,by rw [hμ h1]; exact h2,h3⟩
  · obtain ⟨blk,es,clk,h1,h2,h3⟩ := W.mpo b l hb
    exact ⟨blk,es,clk,h1,by rw [hμ h1]; exact h2,h3⟩
def endQ (I1 : Hp → Prop) (Q : Ex → Hp → Prop) : Ex → Hp → Prop
  | .normal,h => I1 h
  | x,h => Q x h
def RoundQ (k : Nat) (I1 : Hp → Prop) (Q : Ex → Hp → Prop) (x : Ex) (s : St) : Prop :=
  (endQ I1 Q x (s.h.take k) ∧ ∀ (b : Nat) cells,b < k → s.h[b]? = some (some cells) → noRefs k cells = true) ∨ endQ I1 Q x s.h
def jmp (Q : Ex → Hp → Prop) (j : Code) (h : Hp) : Prop := (j = .ret ∧ Q .ret h) ∨ ∃ id,j = .exit id ∧ Q (.exit id) h
theorem cut_mu {G : Gh} {k g : Nat} (h : ∀ b,G.μ b ≠ some g) : ∀ b,(cutμ G k).μ b ≠ some g := fun b hb => by
  simp only [cutμ] at hb
  split at hb
  · exact h b hb
  · cases hb
section
variable {cx : Cx} {n : Nat} {Q : Ex → St → Prop}
theorem round_ok {l : Nat} {fn : FuncId} {tm : Array Value} {ps : List Nat} {assign body : Code} {df : Nat} {G₀ : Gh} {env : Nat → C} {N : Nat} {xs : Nat → List C} {I : Nat → Hp → Prop} {Q : Ex → Hp → Prop}
    (hsz : tm.size = cx.N) (henv : ∀ t,Rep G₀ (env t) (tm.getD t undef)) (hno : ∀ t s n xs,env t ≠ .sl (.own s) n xs) (hx : ∀ i,i < N → (xs i).length = ps.length) (hp : ∀ p ∈ ps,p < cx.N)
    (hb : ∀ i k,i < N → I i k → Tr { cx with top := false } k.length assign ⟨bindE ps (xs i) env,k⟩ fun x s => x = .normal ∧ Tr { cx with top := false } k.length body s (RoundQ k.length (I (i + 1)) Q)) :
    YOK cx.P cx.gl l (fun st pe => { state := st,pending := pe,fn,tmps := tm,params := ps.toArray,assign,body,defers := df }) G₀
      fun az k post => ∃ i,i < N ∧ az = xs i ∧ I i k ∧ ∀ o k',endI (I (i + 1)) (jmp Q) o k' → post o k' := by
  rintro az k post ⟨i,hi,rfl,hIk,hpost⟩ G w vs Le W hT hgl D hr
  have hvs : vs.size = ps.toArray.size := by
    have := hr.length
    rw [hx i hi] at this
    simpa using this.symm
  have hy := run_yield (P := cx.P) (args := vs) D.obj hvs
  refine ⟨_,_,_,_,hy,roundIn_of_wpIn trivial ?_⟩
  have hn0 : ∀ b j,G.μ b = some j → b < k.length := fun b j hm => by
    obtain ⟨⟨cells,hc⟩,_⟩ := W.dom b j hm
    exact (List.getElem?_eq_some_iff.1 hc).1
  have hfold : (ps.toArray.zip vs).foldl (fun (tmps : Array Value) (x : Nat × Value) => tmps.setIfInBounds x.1 x.2) tm = (ps.zip vs.toList).foldl (fun tm (p : Nat × Value) => tm.setIfInBounds p.1 p.2) tm := by
    rw [← Array.foldl_toList,Array.toList_zip]
  obtain ⟨b1,b2,b3⟩ := bind_ok ps (xs i) vs.toList env tm hr (hx i hi) (fun p q => by rw [hsz]; exact hp p q) (fun t => (henv t).mono Le) hno
  have S1 : Sim { cx with top := false } G w ⟨bindE ps (xs i) env,k⟩ { tmps := (ps.toArray.zip vs).foldl (fun (tmps : Array Value) (x : Nat × Value) => tmps.setIfInBounds x.1 x.2) tm,defers := [] } := by
    rw [hfold]
    exact ⟨Mks.nil,by rw [b1,hsz],W,⟨b2,fun t s n xs e => absurd e (b3 t s n xs)⟩,hgl⟩
  refine hb i k hi hIk (some l) (fun h => by cases h) G w _ S1 _ fun x s G2 w2 a2 hq S2 F2 => ?_
  obtain ⟨rfl,hbody⟩ := hq
  have D2 := D.frmN F2.fr
  refine ⟨_,run_beginRound D2.obj rfl,?_⟩
  obtain ⟨rb,hrb⟩ : ∃ rb : Loop,rb = { state := .busy,pending := none,fn,tmps := tm,params := ps.toArray,assign,body,defers := df } := ⟨_,rfl⟩
  have Db : Rdy l (fun _ _ => rb) G2 (w2.putObj l (.loop rb)) .ready none := ⟨World.putObj_heap_same (Array.getElem?_eq_some_iff.1 D2.obj).1,D2.T,D2.μ⟩
  have S2' := S2.putL (ob := .loop rb) D2.obj D2.T D2.μ
  rw [show (Loop.mk .busy none fn tm ps.toArray assign body df) = rb from hrb.symm]
  refine hbody (some l) (fun h => by cases h) G2 _ a2 S2' _ fun x s3 G3 w3 a3 q S3 F3 => ?_
  have D3 := Db.frmN F3.fr
  have FX : FrmX l k.length G w G3 w3 := (FrmX.of F2.fr).trans ((FrmX.put (.loop rb)).trans (.of F3.fr))
  have fin : ∀ (o : Option Code) (k' : Hp) (G4 : Gh),endI (I (i + 1)) (jmp Q) o k' → WorldOK G4 k' w3 → FrmX l k.length G w G4 w3 → G4.T l = none → (∀ b,G4.μ b ≠ some l) →
      ∃ v w',(Instr.endRound l o).run cx.P w3 = .ok v w' ∧ ∃ o' G' h',Ending.returned v = .returned (.bool o'.isNone) ∧ post o' h' ∧ WorldOK G' h' w' ∧ Frm G (w.putObj l (.loop { state := stO o',pending := o',fn,tmps := tm,params := ps.toArray,assign,body,defers := df })) G' w' := by
    intro o k' G4 he W4 F4 hT4 hm4
    have hrun := run_endRound (P := cx.P) o D3.obj
    have Sh := Shut.put (ob := .loop { state := stO o,pending := o,fn,tmps := tm,params := ps.toArray,assign,body,defers := df }) D3.obj (.inr ⟨_,rfl⟩) hT4 hm4
    refine ⟨_,_,hrun,o,G4,k',rfl,hpost o k' he,?_,?_⟩
    · rw [hrb]; exact Sh.ok W4
    · rw [hrb]
      refine (F4.trans (FrmX.put _)).toFrm hn0 W (Sh.ok W4) D.obj (World.putObj_heap_same (Array.getElem?_eq_some_iff.1 D3.obj).1) hT4 hm4
  have two : ∀ o,(∀ k',endQ (I (i + 1)) Q x k' → endI (I (i + 1)) (jmp Q) o k') → ∃ v w',(Instr.endRound l o).run cx.P w3 = .ok v w' ∧ ∃ o' G' h',Ending.returned v = .returned (.bool o'.isNone) ∧ post o' h' ∧ WorldOK G' h' w' ∧ Frm G (w.putObj l (.loop { state := stO o',pending := o',fn,tmps := tm,params := ps.toArray,assign,body,defers := df })) G' w' := by
    intro o ho
    rcases q with ⟨q,hnb⟩ | q
    · exact fin o _ _ (ho _ q) (S3.pre.ok.cut k.length hnb) (FX.trans (.of (frmN_cut (Nat.le_refl _)))) D3.T (cut_mu D3.μ)
    · exact fin o _ _ (ho _ q) S3.pre.ok FX D3.T D3.μ
  cases x with
  | normal => exact two none fun k' q => q
  | ret => exact two (some .ret) fun k' q => .inl ⟨rfl,q⟩
  | exit id => exact two (some (.exit id)) fun k' q => .inr ⟨id,rfl,q⟩
theorem Tr.rfI (ht : cx.top = true) {g f : Nat} {ps : List Nat} {assign body : Code} {e : List (Nat × C)} {h : Hp} {caps : List C} {N : Nat} {xs : Nat → List C} (I : Nat → Hp → Prop) (hg : A e g = .fn f caps) (hI : ItrI cx.P cx.gl f caps N xs I)
    (hx : ∀ i,i < N → (xs i).length = ps.length) (hp : ∀ p ∈ ps,p < cx.N) (h0 : I 0 h)
    (hb : ∀ i k,i < N → I i k → Tr { cx with top := false } k.length assign ⟨bindE ps (xs i) (fun t => (A e t).noR),k⟩ fun x s => x = .normal ∧ Tr { cx with top := false } k.length body s (RoundQ k.length (I (i + 1)) fun x h' => Q x ⟨A e,h'⟩))
    (hd : ∀ k,I N k → Q .normal ⟨A e,k⟩) : Tr cx n (.rangeFunc (.tmp g) ps.toArray assign body) ⟨A e,h⟩ Q := by
  intro r hr G w a S R hR
  obtain rfl : r = none := hr ht
  refine wpIn_rangeFunc (F := wF none) fun fn _ => ?_
  obtain ⟨⟨fn',e1,e2,e3⟩,hit⟩ := hI
  have hv := S.pre.ev (.tmp g)
  rw [ev_tmp] at hv
  simp only [] at hv
  rw [hg] at hv
  simp only [Rep] at hv
  obtain ⟨cv,hfv,hcaps⟩ := hv
  obtain ⟨rec,hrec⟩ : ∃ rec : LoopState → Option Code → Loop,rec = fun st pe => { state := st,pending := pe,fn,tmps := a.tmps,params := ps.toArray,assign,body,defers := w.heap.size } := ⟨_,rfl⟩
  obtain ⟨W1,hW1⟩ : ∃ W1,(w.alloc (.deferred (some []))).alloc (.loop (rec .ready none)) = W1 := ⟨_,rfl⟩
  have hL1 : W1.heap[w.heap.size + 1]? = some (.loop (rec .ready none)) := by
    rw [← hW1]; have := World.alloc_heap_new (w.alloc (.deferred (some []))) (.loop (rec .ready none)); rwa [World.size_alloc] at this
  have hsz1 : W1.heap.size = w.heap.size + 2 := by rw [← hW1]; simp
  have hlow : ∀ g,g < w.heap.size + 1 → W1.heap[g]? = (w.alloc (.deferred (some []))).heap[g]? := fun g hg => by
    rw [← hW1]; show ((w.heap.push _).push _)[g]? = (w.heap.push _)[g]?
    rw [Array.getElem?_push,if_neg (by simp; omega)]
  have hsame : ∀ g,g < w.heap.size → W1.heap[g]? = w.heap[g]? := fun g hg => by
    rw [hlow g (by omega)]
    show (w.heap.push _)[g]? = w.heap[g]?
    rw [Array.getElem?_push,if_neg (by omega)]
  have hK1 : W1.heap[w.heap.size]? = some (.deferred (some [])) := by
    rw [hlow _ (by omega)]; exact World.alloc_heap_new w _
  have hW : WorldOK G h W1 := S.pre.ok.grown (by omega) hsame
  have hTl : ∀ g,w.heap.size ≤ g → G.T g = none := fun g hg => S.pre.ok.tnone hg
  have hml : ∀ g,w.heap.size ≤ g → ∀ b,G.μ b ≠ some g := fun g hg b hb => by have := (S.pre.ok.dom b g hb).2; omega
  refine ⟨w.heap.size + 1,[{ target := .collected w.heap.size,args := #[] }],W1,{ target := .fn (.func f) cv,args := #[.func (.yield (w.heap.size + 1)) #[] #[]] },W1,f,
    #[.func (.yield (w.heap.size + 1)) #[] #[]] ++ cv,W1,?_,?_,fun _ _ => trivial,?_,(fun h => by cases h),?_⟩
  · rw [← hW1,hrec]; exact run_enterLoop_outer _ _ _ _ _
  · simp only [resolve,rangeCall,hfv]
    simp [Deferred.ofValue,Act.eval]
  · have e2' : ¬ fn'.name = "runtime.NumGoroutine" := by simpa using e2
    have e3' : ¬ fn'.body = none := by cases hq : fn'.body <;> simp_all
    simp [invoke,callFunc,e1,e2',e3',program,Sem.run]
  · have D1 : Rdy (w.heap.size + 1) rec (hide G) W1 .ready none := ⟨hL1,hide_none (hTl _ (by omega)),hml _ (by omega)⟩
    have hY : YOK cx.P cx.gl (w.heap.size + 1) rec (hide G) (fun az k post => ∃ i,i < N ∧ az = xs i ∧ I i k ∧ ∀ o k',endI (I (i + 1)) (jmp fun x h' => Q x ⟨A e,h'⟩) o k' → post o k') := by
      rw [hrec]
      exact round_ok S.size (fun t => ((S.pre.env.1 t).noR).mono hide_le) (fun t s n xs q => noR_own q) hx hp hb
    have hcall := hit (w.heap.size + 1) rec (jmp fun x h' => Q x ⟨A e,h'⟩) h (hide G) W1 cv _ hY (fun i k post hi hk hp => ⟨i,hi,rfl,hk,hp⟩) h0 (hide_ok hW) (fun g p hg => by
      simp only [hide] at hg
      cases hq : G.T g with
      | none => rw [hq] at hg; cases hg
      | some q =>
        rw [hq] at hg
        simp only [] at hg
        split at hg
        · cases hg; assumption
        · cases hg) (fun g => (S.pre.glob g).mono hide_le) D1 (RepL.mono hide_le _ _ hcaps)
    refine hcall.mono ?_
    rintro e0 W2 ⟨v,o,G',h',rfl,hend,W',F⟩
    obtain ⟨ob,hob⟩ : ∃ ob,Obj.loop (rec (stO o) o) = ob := ⟨_,rfl⟩
    rw [hob] at F
    have hlt : w.heap.size + 1 < W1.heap.size := by omega
    have hput : (W1.putObj (w.heap.size + 1) ob).heap[w.heap.size + 1]? = some ob := World.putObj_heap_same hlt
    have S1 : Sim cx G W1 ⟨A e,h⟩ a := ⟨⟨S.defers.1,fun d hd => by
      obtain ⟨E,q1,q2,q3⟩ := S.defers.2 d hd
      exact ⟨E,q1,(hsame E (Array.getElem?_eq_some_iff.1 q2).1).trans q2,q3⟩⟩,S.size,hW,⟨S.pre.env.1,fun t s m xs q => by
      rcases S.pre.env.2 t s m xs q with O | ⟨g,cap,cur,ee,a1,a2,a3,a4⟩
      · exact .inl O
      · exact .inr ⟨g,cap,cur,ee,a1,a2,(hsame g (Array.getElem?_eq_some_iff.1 a3).1).trans a3,a4⟩⟩,S.pre.glob⟩
    have S1' := S1.putL (ob := ob) hL1 (hTl _ (by omega)) (hml _ (by omega))
    have O := call_out (c := .top) (v := undef) S1'.pre (3,0,0) W' F (by simp only [Rep]) (fun s n xs e => by cases e)
    obtain ⟨G'',hG⟩ : ∃ G'',back G (W1.putObj (w.heap.size + 1) ob).heap.size G' (3,0,0) = G'' := ⟨_,rfl⟩
    rw [hG] at O
    have S2 : Sim cx G'' W2 ⟨A e,h'⟩ a := ⟨S1'.defers.frm O.frm,S.size,O.ok,O.env,fun g => (S.pre.glob g).mono O.frm.le⟩
    obtain ⟨l1,l2,l3,_⟩ := O.frm.old (w.heap.size + 1) (by rw [World.putObj_size]; exact hlt) (hTl _ (by omega)) (hml _ (by omega))
    obtain ⟨d1,d2,d3,_⟩ := O.frm.old w.heap.size (by rw [World.putObj_size]; omega) (hTl _ (Nat.le_refl _)) (hml _ (Nat.le_refl _))
    rw [hput] at l1
    rw [World.putObj_heap_other (by omega),hK1] at d1
    rw [← hob] at l1
    have hend2 := run_endLoop (P := cx.P) l1 (by rw [hrec]; cases o <;> simp [stO])
    refine ⟨_,_,hend2,?_⟩
    obtain ⟨ob2,hob2⟩ : ∃ ob2,Obj.loop { (rec (stO o) o) with state := .exhausted } = ob2 := ⟨_,rfl⟩
    rw [hob2,show (rec (stO o) o).pending = o from by rw [hrec]]
    have S3 := S2.putL (ob := ob2) l1 l2 l3
    have S4 : Sim cx G'' (W2.putObj (w.heap.size + 1) ob2) ⟨A e,h'⟩ { a with defers := [{ target := .collected w.heap.size,args := #[] }] ++ a.defers } :=
      ⟨⟨List.nodup_cons.2 ⟨fun hm => by
        obtain ⟨E,q1,q2,_⟩ := S.defers.2 _ hm
        have := (Array.getElem?_eq_some_iff.1 q2).1
        simp only [Deferred.mk.injEq,Target.collected.injEq,and_true] at q1
        omega,S3.defers.1⟩,fun d hd => by
        rcases List.mem_cons.1 hd with rfl | hd
        · exact ⟨w.heap.size,rfl,(World.putObj_heap_other (by omega)).trans d1,d2,d3⟩
        · exact S3.defers.2 d hd⟩,S3.size,⟨S3.pre.ok,S3.pre.env,S3.pre.glob⟩⟩
    have FA : FrmA n G w a G'' (W2.putObj (w.heap.size + 1) ob2) { a with defers := [{ target := .collected w.heap.size,args := #[] }] ++ a.defers } := by
      refine ⟨⟨?_,?_,?_,?_,O.frm.le.K,fun b k _ x => O.frm.le.μ b k x,fun b k _ x => O.frm.le.σ b k x,fun g hg ht2 hm => ?_⟩,⟨_,rfl,fun d hd D hD => by
        rw [List.mem_singleton.1 hd] at hD; cases hD; exact Nat.le_refl _⟩⟩
      · exact O.frm.os.trans (by rw [← hW1]; rfl)
      · exact O.frm.tape.trans (by rw [← hW1]; rfl)
      · exact O.frm.output.trans (by rw [← hW1]; rfl)
      · have := O.frm.size
        rw [World.putObj_size] at this
        rw [World.putObj_size]; omega
      · obtain ⟨a1,a2⟩ := O.frm.old g (by rw [World.putObj_size]; omega) ht2 hm
        exact ⟨(World.putObj_heap_other (by omega)).trans (a1.trans ((World.putObj_heap_other (by omega)).trans (hsame g hg))),a2⟩
    cases o with
    | none => exact hR .normal _ _ _ _ (hd h' hend) S4 FA
    | some j =>
      rcases hend with ⟨rfl,hq⟩ | ⟨id,rfl,hq⟩
      · exact wpIn_ret (hR .ret _ _ _ _ hq S4 FA)
      · exact wpIn_exit (hR (.exit id) _ _ _ _ hq S4 FA)
end
end Go.Sx
namespace Go.Sx
open Go.RowKit
def bindL : List Nat → List C → List (Nat × C) → List (Nat × C)
  | p :: ps,c :: az,e => bindL ps az ((p,c.noR) :: e)
  | _,_,e => e
theorem bindL_eq : ∀ (ps : List Nat) (az : List C) (e : List (Nat × C)),bindE ps az (A e) = A (bindL ps az e)
  | [],_,_ => by simp only [bindE,bindL]
  | _ :: _,[],_ => by simp only [bindE,bindL]
  | p :: ps,c :: az,e => by
    have : put (some p) c.noR (A e) = A ((p,c.noR) :: e) := rfl
    simp only [bindE,bindL]
    rw [this]; exact bindL_eq ps az _
theorem bindL_nil (az : List C) (e : List (Nat × C)) : bindL [] az e = e := by simp only [bindL]
theorem bindL_cons (p : Nat) (ps : List Nat) (c : C) (az : List C) (e : List (Nat × C)) : bindL (p :: ps) (c :: az) e = bindL ps az ((p,c.noR) :: e) := rfl
def nrE : List (Nat × C) → List (Nat × C)
  | [] => []
  | (k,c) :: l => (k,c.noR) :: nrE l
theorem nrE_nil : nrE [] = [] := rfl
theorem nrE_cons (k : Nat) (c : C) (l : List (Nat × C)) : nrE ((k,c) :: l) = (k,c.noR) :: nrE l := rfl
theorem nrE_eq : ∀ e : List (Nat × C),(fun t => (A e t).noR) = A (nrE e)
  | [] => by funext t; rfl
  | (k,c) :: l => by
    funext t
    have := congrFun (nrE_eq l) t
    simp only [nrE,A] at this ⊢
    split
    · rfl
    · exact this
attribute [go_sem] bindL_nil bindL_cons nrE_nil nrE_cons
def ItrB (P : Program) (gl : Nat → C) (f : Nat) (caps : List C) (N : Nat) (xs : Nat → List C) (R : Nat → Hp → Prop) : Prop := ∀ (m : Nat) (I : Nat → Hp → Prop),(∀ i h,I i h → R m h) → ItrI P gl f caps N xs I
theorem Tr.rfB {R : Nat → Hp → Prop} {cx : Cx} {n : Nat} {Q : Ex → St → Prop} (ht : cx.top = true) {g f : Nat} {ps : List Nat} {assign body : Code} {e : List (Nat × C)} {h : Hp} {caps : List C} (N : Nat) (xs : Nat → List C) (H : Nat → Hp) (hg : A e g = .fn f caps) (hI : ItrB cx.P cx.gl f caps N xs R)
    (m : Nat) (hR : ∀ i,R m (H i)) (hx : ∀ i,i < N → (xs i).length = ps.length) (hp : ∀ p ∈ ps,p < cx.N) (h0 : h = H 0)
    (hb : ∀ i,i < N → Tr { cx with top := false } (H i).length assign ⟨A (bindL ps (xs i) (nrE e)),H i⟩ fun x s => x = .normal ∧ Tr { cx with top := false } (H i).length body s (RoundQ (H i).length (fun k => k = H (i + 1)) fun x h' => Q x ⟨A e,h'⟩))
    (hd : Q .normal ⟨A e,H N⟩) : Tr cx n (.rangeFunc (.tmp g) ps.toArray assign body) ⟨A e,h⟩ Q :=
  Tr.rfI ht (fun i k => k = H i) hg (hI m _ fun i k hk => by subst hk; exact hR i) hx hp h0 (fun i k hi hk => by subst hk; rw [nrE_eq,bindL_eq]; exact hb i hi) (fun k hk => by subst hk; exact hd)
theorem RoundQ.r {k : Nat} {I1 : Hp → Prop} {Q : Ex → Hp → Prop} {s : St} (h : Q .ret s.h) : RoundQ k I1 Q .ret s := .inr h
end Go.Sx
namespace Go.Sx
open Go.RowKit
section
variable {l0 : Nat} {rec : LoopState → Option Code → Loop} {G₀ : Gh} {cx : Cx} {n : Nat} {Q : Option Code → Ex → St → Prop} {e : List (Nat × C)} {h : Hp} {b : Code} {id : Nat} {l : List Oper} {s : St}
theorem TrY.w (hcx : CxOK cx) (apps : List Nat) (dsts : List (Option Nat)) (z : Hp) (h1 : l.filterMap appOf = apps) (h2 : l.map (·.dst) = dsts) (h3 : nones l = z) (H : TrY l0 rec G₀ cx n b s Q) (E : ∀ K : St → Prop,K s → run cx apps dsts l h.length e (h ++ z) [] (fun _ s => K s)) : TrY l0 rec G₀ cx n (.seq (.region id l.toArray false) b) ⟨A e,h⟩ Q :=
  TrY.seq (TrY.lift (Q1 := fun x s' => x = .normal ∧ TrY l0 rec G₀ cx n b s' Q) (Tr.rg hcx apps dsts z h1 h2 h3 (E (fun s' => Ex.normal = .normal ∧ TrY l0 rec G₀ cx n b s' Q) ⟨rfl,H⟩)) (fun x s' q => by obtain ⟨rfl,q⟩ := q; exact ⟨fun _ => q,fun c => absurd rfl c⟩))
theorem TrY.v (hcx : CxOK cx) (apps : List Nat) (dsts : List (Option Nat)) (z : Hp) (h1 : l.filterMap appOf = apps) (h2 : l.map (·.dst) = dsts) (h3 : nones l = z) (H : Q none .normal s) (E : ∀ K : St → Prop,K s → run cx apps dsts l h.length e (h ++ z) [] (fun _ s => K s)) : TrY l0 rec G₀ cx n (.region id l.toArray false) ⟨A e,h⟩ Q :=
  TrY.lift (Q1 := fun x s' => x = .normal ∧ Q none .normal s') (Tr.rg hcx apps dsts z h1 h2 h3 (E (fun s' => Ex.normal = .normal ∧ Q none .normal s') ⟨rfl,H⟩)) (fun x s' q => by obtain ⟨rfl,q⟩ := q; exact q)
theorem TrY.live {c : Code} (k : List (Nat × C)) (hl : Le s.env k) (H : TrY l0 rec G₀ cx n c ⟨A k,s.h⟩ Q) : TrY l0 rec G₀ cx n c s Q := TrY.weaken (fun t => hl.spec t) H
theorem TrY.k (ks : List Nat) {c : Code} {e' : List (Nat × C)} (H : TrY l0 rec G₀ cx n c ⟨A e',h⟩ Q) (E : ∀ R : List (Nat × C) → Prop,R e' → R (pk e ks)) : TrY l0 rec G₀ cx n c ⟨A e,h⟩ Q :=
  TrY.weaken (fun t => by
    rcases A_pk e t ks with q | q
    · simp only []; rw [q]; exact CLe.top _
    · simp only []; rw [q]; exact CLe.refl _) (E (fun x => TrY l0 rec G₀ cx n c ⟨A x,h⟩ Q) H)
theorem TrY.yw (hcx : CxOK cx) {Y : Ys} (hY : YOK cx.P cx.gl l0 rec G₀ Y) (kk : Nat) {d y : Nat} {args : Array Operand} {ts : Array TypeId} {ty : TypeId} {pos : String} {aft : Array Edge} {e1 : List (Nat × C)} {e2 : Bool → List (Nat × C)} {az : List C} {P1 : Hp → Prop} {B : Code → Hp → Prop}
    (hL : l = l.take kk ++ ⟨some d,.call { callee := .value (.tmp y),args,argTypes := ts },ty,pos,aft,none⟩ :: l.drop (kk + 1)) (hd : d < cx.N) (hm : l.countP makes = 0) (apps : List Nat) (dsts : List (Option Nat)) (h1 : l.filterMap appOf = apps) (h2 : l.map (·.dst) = dsts)
    (hYs : ∀ post,(∀ o k,endI P1 B o k → post o k) → Y az h post)
    (E1 : ∀ K : St → Prop,K ⟨A e1,h⟩ → run cx apps dsts (l.take kk) h.length e h [] (fun _ s => K s)) (hy : A e1 y = .val (.func (.yield l0) #[] #[])) (haz : (args.toList.map (cx.evn (A e1))).map C.share = az)
    (E2 : ∀ (c : Bool) (k : Hp) (K : St → Prop),K ⟨A (e2 c),k⟩ → run cx apps dsts (l.drop (kk + 1)) h.length ((d,.val (.bool c)) :: e1) k [] (fun _ s => K s))
    (Hn : ∀ k,P1 k → TrY l0 rec G₀ cx n b ⟨A (e2 true),k⟩ Q) (Hs : ∀ j k,B j k → Tr cx n b ⟨A (e2 false),k⟩ fun x s => Q (some j) x s) : TrY l0 rec G₀ cx n (.seq (.region id l.toArray false) b) ⟨A e,h⟩ Q := by
  refine TrY.seq (TrY.rg hcx hY _ _ hL hd hm apps dsts h1 h2 (E1 _ ⟨hy,?_⟩))
  rw [haz]
  refine hYs _ fun o k hk => ?_
  have hput : ∀ c,put (some d) (C.val (.bool c)) (A e1) = A ((d,.val (.bool c)) :: e1) := fun c => rfl
  rw [hput]
  refine runE_of_run _ _ _ _ (E2 o.isNone k _ ?_)
  cases o with
  | none => exact ⟨fun _ => Hn k hk,fun c => absurd rfl c⟩
  | some j => exact ⟨(fun c => by cases c),fun _ => Hs j k hk⟩
end
end Go.Sx
namespace Go.Sx
open Go.RowKit
structure RowN (n : Nat) (h : Hp) : Prop where
  len : h.length = n
  nr : noRefH 0 h = true
  lv : ∀ j,j < n → ((h.at j).isSome || (h.mp j).isSome) = true ∨ h[j]? = some none
mutual
theorem noRef_le {k m : Nat} (hk : k ≤ m) : ∀ c : C,noRef k c = true → noRef m c = true
  | .val _,_ => rfl
  | .top,_ => rfl
  | .agg xs,h => by simp only [noRef] at h ⊢; exact noRefs_le hk xs h
  | .tup xs,h => by simp only [noRef] at h ⊢; exact noRefs_le hk xs h
  | .kp xs,h => by simp only [noRef] at h ⊢; exact noRefs_le hk xs h
  | .sl _ _ xs,h => by simp only [noRef] at h ⊢; exact noRefs_le hk xs h
  | .fn _ xs,h => by simp only [noRef] at h ⊢; exact noRefs_le hk xs h
  | .sv _ _ _,h => by simp only [noRef,decide_eq_true_eq] at h ⊢; omega
  | .gv _ _ _,h => by simp only [noRef,decide_eq_true_eq] at h ⊢; omega
  | .bp _ _,h => by simp only [noRef,decide_eq_true_eq] at h ⊢; omega
  | .bt _ _ _,h => by simp only [noRef,decide_eq_true_eq] at h ⊢; omega
  | .mp _,h => by simp only [noRef,decide_eq_true_eq] at h ⊢; omega
theorem noRefs_le {k m : Nat} (hk : k ≤ m) : ∀ l : List C,noRefs k l = true → noRefs m l = true
  | [],_ => rfl
  | x :: xs,h => by simp only [noRefs,Bool.and_eq_true] at h ⊢; exact ⟨noRef_le hk x h.1,noRefs_le hk xs h.2⟩
end
def fzE (n : Nat) (ys : List C) : List (Nat × C) → List (Nat × C) → Prop
  | [],[] => True
  | (k,c) :: e,(k',c') :: e' => k = k' ∧ ((c' = c ∧ noRef 0 c = true) ∨ ∃ o,c = .bp n o ∧ c' = .kp (ys.drop o)) ∧ fzE n ys e e'
  | _,_ => False
theorem fzE_map {ok : Nat → Bool} {n : Nat} {ys : List C} : ∀ {e e' : List (Nat × C)},fzE n ys e e' → mapE (fzC ok n ys) e = e'
  | [],[],_ => rfl
  | (k,c) :: e,(k',c') :: e',h => by
    obtain ⟨rfl,h1,h2⟩ := h
    rw [mapE_cons,fzE_map h2]
    rcases h1 with ⟨rfl,h1⟩ | ⟨o,rfl,rfl⟩
    · rw [fzC_nr _ _ _ _ h1]
    · rw [fzC_bp,if_pos rfl]
  | [],_ :: _,h => by cases h
  | _ :: _,[],h => by cases h
theorem fzE_nr {n : Nat} {ys : List C} (hy : noRefs 0 ys = true) : ∀ {e e' : List (Nat × C)},fzE n ys e e' → ∀ t,noRef 0 (A e' t) = true
  | [],[],_,t => rfl
  | (k,c) :: e,(k',c') :: e',h,t => by
    obtain ⟨rfl,h1,h2⟩ := h
    simp only [A]
    split
    · rcases h1 with ⟨rfl,h1⟩ | ⟨o,rfl,rfl⟩
      · exact h1
      · show noRefs 0 (ys.drop o) = true
        have : ∀ (l : List C) (o : Nat),noRefs 0 l = true → noRefs 0 (l.drop o) = true := fun l => by
          induction l with
          | nil => intro o _; simp [noRefs]
          | cons x l ih =>
            intro o h
            cases o with
            | zero => exact h
            | succ o => simp only [noRefs,Bool.and_eq_true] at h; exact ih o h.2
        exact this ys o hy
    · exact fzE_nr hy h2 t
  | [],_ :: _,h,_ => by cases h
  | _ :: _,[],h,_ => by cases h
section
variable {l0 : Nat} {rec : LoopState → Option Code → Loop} {G₀ : Gh} {cx : Cx} {n : Nat} {Q : Option Code → Ex → St → Prop}
theorem row_fz {k : Hp} {cells ys : List C} {ok : Nat → Bool} (hk : RowN n k) : (fzH ok n ys (k ++ [some cells])).take n = k := by
  obtain ⟨rfl,h2,h3⟩ := hk
  unfold fzH
  rw [List.map_append,List.map_cons,List.map_nil,List.set_append_right _ _ (by simp),List.take_append_of_le_length (by simp),List.take_of_length_le (by simp)]
  refine (List.map_congr_left (g := id) fun o ho => ?_).trans (List.map_id _)
  cases o with
  | none => rfl
  | some c =>
    obtain ⟨b,hb⟩ := List.getElem?_of_mem ho
    simp only [Option.map_some,id_eq,fzCs_nr _ _ _ _ (noRefH_at 0 k b c h2 hb)]
theorem TrY.fz1 {c : Code} {e : List (Nat × C)} {k : Hp} {cells : List C} (hcx : CxOK cx) (e' : List (Nat × C)) (ys : List C) (hk : RowN n k) (hc : noRefs 0 cells = true) (hl : liveC (some cells) = some cells) (hy : ys = cells.map C.noR) (he : fzE k.length ys e e')
    (H : TrY l0 rec G₀ cx n c ⟨A e',k⟩ Q) : TrY l0 rec G₀ cx n c ⟨A e,k ++ [some cells]⟩ Q := by
  rw [hk.len] at he
  intro G w a Le S D R hR
  have hb : Hp.at (k ++ [some cells]) n = some cells := by rw [Hp.at_append,if_pos hk.len.symm]; exact hl
  have hys : fzY (k ++ [some cells]) n cells = ys := by rw [hy,fzY,scrs_nr _ _ hc]
  have hnr : noRefs 0 ys = true := by
    rw [hy]
    have : ∀ l : List C,noRefs 0 l = true → noRefs 0 (l.map C.noR) = true := fun l => by
      induction l with
      | nil => intro _; rfl
      | cons x l ih =>
        intro h
        simp only [noRefs,Bool.and_eq_true] at h
        simp only [List.map_cons,noRefs,Bool.and_eq_true]
        refine ⟨?_,ih h.2⟩
        have h1 := h.1
        cases x <;> first | exact h1 | skip
        rename_i r m xs
        cases r <;> exact h1
    exact this cells hc
  have W1 := S.pre.ok.fz hb
  rw [hys] at W1
  have hrow := row_fz (cells := cells) (ys := ys) (ok := okF (k ++ [some cells]) n) hk
  have W2 := W1.cut n (fun b cs hbn hcs => by
    have : k[b]? = some (some cs) := by
      rw [← hrow,List.getElem?_take,if_pos hbn]; exact hcs
    exact noRefs_le (Nat.zero_le _) cs (noRefH_at 0 k b cs hk.nr this))
  rw [hrow] at W2
  have hlen : k.length = n := hk.len
  have hn : ∀ j,j < n → ((Hp.at (k ++ [some cells]) j).isSome || (Hp.mp (k ++ [some cells]) j).isSome) = true ∨ (k ++ [some cells])[j]? = some none := fun j hj => by
    have e1 : (k ++ [some cells])[j]? = k[j]? := List.getElem?_append_left (by omega)
    rcases hk.lv j hj with h | h
    · left
      rw [Hp.at_append,if_neg (by omega)]
      have : Hp.mp (k ++ [some cells]) j = Hp.mp k j := by unfold Hp.mp; rw [e1]
      rw [this]; exact h
    · right; rw [e1]; exact h
  have F1 : FrmN n G w (fzG G w n cells.length) w := frmN_fz S.pre.ok hb (Nat.le_refl _) hn _
  have F2 : FrmN n (fzG G w n cells.length) w (cutμ (fzG G w n cells.length) n) w := frmN_cut (Nat.le_refl _)
  have F := F1.trans F2
  have hμ : ∀ g,(∀ b,G.μ b ≠ some g) → ∀ b,(cutμ (fzG G w n cells.length) n).μ b ≠ some g := fun g h b hb' => by
    simp only [cutμ,fzG] at hb'
    split at hb'
    · split at hb'
      · cases hb'
      · exact h b hb'
    · cases hb'
  have hm : mapE (fzC (okF (k ++ [some cells]) n) n ys) e = e' := fzE_map he
  have hE : ∀ t,Rep (cutμ (fzG G w n cells.length) n) (A e' t) (a.tmps.getD t undef) := fun t => by
    have h1 := fzC_rep S.pre.ok hb _ _ (S.pre.env.1 t)
    rw [hys] at h1
    have h2 : fzC (okF (k ++ [some cells]) n) n ys (A e t) = A e' t := by
      rw [← hm]
      exact congrFun (mapE_A (fzC (okF (k ++ [some cells]) n) n ys) (by simp only [fzC]) e) t
    simp only [] at h1
    rw [h2] at h1
    exact noRef_rep _ _ (noRef_le (Nat.zero_le _) _ (fzE_nr hnr he t)) h1
  have S' : Sim cx (cutμ (fzG G w n cells.length) n) w ⟨A e',k⟩ a := by
    refine ⟨S.defers.same (fun _ h => h) hμ,S.size,W2,⟨hE,fun t s m xs q => ?_⟩,fun g => ?_⟩
    · have h2 : fzC (okF (k ++ [some cells]) n) n ys (A e t) = A e' t := by
        rw [← hm]
        exact congrFun (mapE_A (fzC (okF (k ++ [some cells]) n) n ys) (by simp only [fzC]) e) t
      simp only [] at q
      rw [← h2] at q
      obtain ⟨zs,hz⟩ := fzC_own q
      have O := (S.pre.env.2 t s m zs hz).fz (b := n) (k := cells.length)
      rcases O with O | ⟨g,cap,cur,ee,a1,a2,a3,a4,a5,a6⟩
      · exact .inl O
      · refine .inr ⟨g,cap,cur,ee,a1,a2,a3,a4,a5,fun b' hb' => ?_⟩
        simp only [cutμ] at hb'
        split at hb'
        · exact a6 b' hb'
        · cases hb'
    · exact noRef_rep _ _ (noRef_le (Nat.zero_le _) _ (hcx.glo g)) ((noRef_rep _ _ (hcx.glo g) (S.pre.glob g)).mono (fz_le S.pre.ok _))
  exact H (cutμ (fzG G w n cells.length) n) w a (Le.frm F) S' (D.frmN F) R fun o x st' G' w' a' q S2 FX FN Df D2 => hR o x st' G' w' a' q S2 ((FrmX.of F).trans FX) (fun e => F.trans (FN e)) Df D2
theorem fzE_rf {n : Nat} {ys : List C} : ∀ {e : List (Nat × C)},(e.all fun p => noRef 0 p.2) = true → fzE n ys e e
  | [],_ => True.intro
  | (k,c) :: e,h => by
    rw [List.all_cons,Bool.and_eq_true] at h
    exact ⟨rfl,.inl ⟨rfl,h.1⟩,fzE_rf h.2⟩
theorem TrY.dr1 {c : Code} {e : List (Nat × C)} {k : Hp} {cells : List C} (hcx : CxOK cx) (hk : RowN n k) (hc : noRefs 0 cells = true) (hl : liveC (some cells) = some cells) (he : (e.all fun p => noRef 0 p.2) = true)
    (H : TrY l0 rec G₀ cx n c ⟨A e,k⟩ Q) : TrY l0 rec G₀ cx n c ⟨A e,k ++ [some cells]⟩ Q := TrY.fz1 hcx e _ hk hc hl rfl (fzE_rf he) H
end
end Go.Sx
namespace Go.Sx
open Go.RowKit
theorem RowN.nil : RowN 0 [] := ⟨rfl,rfl,fun j h => by omega⟩
theorem ItrB.of {cx : Cx} {f : Nat} {fn : Func} {code : Code} {caps : List C} {N : Nat} {xs : Nat → List C} (hN : cx.N = fn.ntmps) (hf : cx.P.funcs[f]? = some fn) (hn : (fn.name == "runtime.NumGoroutine") = false) (hb : fn.body = some code) (hrs : fn.results = #[]) (hlen : caps.length + 1 ≤ fn.ntmps)
    (hT : ∀ (n l : Nat) (rec : LoopState → Option Code → Loop) (G : Gh) (I : Nat → Hp → Prop) (B : Code → Hp → Prop) (h : Hp) (Y : Ys),YOK cx.P cx.gl l rec G Y → (∀ i h post,i < N → I i h → (∀ o k,endI (I (i + 1)) B o k → post o k) → Y (xs i) h post) → I 0 h → (∀ i h,I i h → RowN n h) →
      TrY l rec G cx n code ⟨A (ini 0 (.val (.func (.yield l) #[] #[]) :: caps)),h⟩ (EndsY (endI (I N) B))) : ItrB cx.P cx.gl f caps N xs RowN := fun m I hR =>
  ItrI.of hN hf hn hb hrs hlen fun l rec G B h Y hY hI h0 => by
    have := hT m l rec G I B h Y hY hI h0 hR
    rwa [← (hR 0 h h0).len] at this
end Go.Sx
namespace Go.Sx
open Go.RowKit
def le (m : Nat) : List UInt8 := if h : m = 0 then [] else UInt8.ofNat (m % 256) :: le (m / 256)
termination_by m
decreasing_by omega
def be (m k : Nat) : List UInt8 := (List.range k).map fun j => UInt8.ofNat (m >>> (8 * (k - 1 - j)))
end Go.Sx
namespace Go.Sx
open Go.RowKit Go.Proofs
theorem td3 : td Tryd.prog 3 = some ⟨.int .i64,1,8,[.int .i64 0]⟩ := by kernel_rfl
theorem td4 : td Tryd.prog 4 = some ⟨.bool,1,1,[.bool false]⟩ := by kernel_rfl
theorem td5 : td Tryd.prog 5 = some ⟨.int .u8,1,1,[.int .u8 0]⟩ := by kernel_rfl
theorem td9 : td Tryd.prog 9 = some ⟨.string,1,16,[.string ⟨#[]⟩]⟩ := by kernel_rfl
theorem td22 : td Tryd.prog 22 = some ⟨.slice 3,1,24,[.slice none 0 0]⟩ := by kernel_rfl
theorem td23 : td Tryd.prog 23 = some ⟨.slice 29,1,24,[.slice none 0 0]⟩ := by kernel_rfl
theorem td25 : td Tryd.prog 25 = some ⟨.int .i64,1,8,[.int .i64 0]⟩ := by kernel_rfl
theorem td27 : td Tryd.prog 27 = some ⟨.slice 46,1,24,[.slice none 0 0]⟩ := by kernel_rfl
theorem td29 : td Tryd.prog 29 = some ⟨.struct #[Field.mk "List" 27 0 false "" "" 0], 1, 24, [.slice none 0 0]⟩ := by kernel_rfl
theorem td30 : td Tryd.prog 30 = some ⟨.slice 37,1,24,[.slice none 0 0]⟩ := by kernel_rfl
theorem td34 : td Tryd.prog 34 = some ⟨.struct #[Field.mk "By" 3 0 false "" "" 0, Field.mk "Seq" 3 1 false "" "" 8, Field.mk "K" 3 2 false "" "" 16], 3, 24, [.int .i64 0, .int .i64 0, .int .i64 0]⟩ := by kernel_rfl
theorem td35 : td Tryd.prog 35 = some ⟨.slice 34,1,24,[.slice none 0 0]⟩ := by kernel_rfl
theorem td37 : td Tryd.prog 37 = some ⟨.struct #[Field.mk "ID" 34 0 false "" "" 0, Field.mk "Form" 3 3 false "" "" 24, Field.mk "Lang" 3 4 false "" "" 32, Field.mk "Text" 9 5 false "" "" 40, Field.mk "Refs" 35 6 false "" "" 56], 7, 80, [.int .i64 0, .int .i64 0, .int .i64 0, .int .i64 0, .int .i64 0, .string ⟨#[]⟩, .slice none 0 0]⟩ := by kernel_rfl
theorem td44 : td Tryd.prog 44 = some ⟨.slice 48,1,24,[.slice none 0 0]⟩ := by kernel_rfl
theorem td46 : td Tryd.prog 46 = some ⟨.struct #[Field.mk "List" 44 0 false "" "" 0], 1, 24, [.slice none 0 0]⟩ := by kernel_rfl
theorem td48 : td Tryd.prog 48 = some ⟨.struct #[Field.mk "Title" 9 0 false "" "" 0, Field.mk "List" 30 1 false "" "" 16], 2, 40, [.string ⟨#[]⟩, .slice none 0 0]⟩ := by kernel_rfl
theorem td53 : td Tryd.prog 53 = some ⟨.array 3 3,3,24,List.replicate 3 (.int .i64 0)⟩ := by kernel_rfl
theorem td60 : td Tryd.prog 60 = some ⟨.struct #[Field.mk "Volume" 3 0 false "" "" 0, Field.mk "Article" 3 1 false "" "" 8, Field.mk "Index" 3 2 false "" "" 16], 3, 24, [.int .i64 0, .int .i64 0, .int .i64 0]⟩ := by kernel_rfl
theorem td72 : td Tryd.prog 72 = some ⟨.slice 5,1,24,[.slice none 0 0]⟩ := by kernel_rfl
theorem td97 : td Tryd.prog 97 = some ⟨.slice 143,1,24,[.slice none 0 0]⟩ := by kernel_rfl
theorem td122 : td Tryd.prog 122 = some ⟨.slice 9,1,24,[.slice none 0 0]⟩ := by kernel_rfl
theorem td143 : td Tryd.prog 143 = some ⟨.struct #[Field.mk "At" 3 0 false "" "" 0, Field.mk "End" 3 1 false "" "" 8, Field.mk "Kind" 3 2 false "" "" 16], 3, 24, [.int .i64 0, .int .i64 0, .int .i64 0]⟩ := by kernel_rfl
attribute [go_sem] td3 td4 td5 td9 td22 td23 td25 td27 td29 td30 td34 td35 td37 td44 td46 td48 td53 td60 td72 td97 td122 td143
noncomputable def glN : Nat → C := fun g => if g = 0 then .kp [.val (.int .i64 (-1)),.val (.int .i64 0),.val (.int .i64 0)] else .top
noncomputable def cxP (gl : Nat → C) (M : Nat) (pu : Nat → List C → Option C) : Cx := ⟨Tryd.prog,M,gl,pu,fun _ _ _ => none,fun _ => false,fun _ _ => false,true⟩
theorem isG_mk (P : Program) (N : Nat) (gl : Nat → C) (pu : Nat → List C → Option C) (hp : Nat → List C → Hp → Option (C × Hp)) (km : TypeId → Value → Bool) (d : Option Nat) : isG ⟨P,N,gl,pu,hp,fun _ => false,km,true⟩ d = false := by cases d <;> rfl
theorem cxP_gr (gl : Nat → C) (M : Nat) (pu : Nat → List C → Option C) (d : Option Nat) : isG (cxP gl M pu) d = false := by cases d <;> rfl
theorem cxP_P (gl : Nat → C) (M : Nat) (pu : Nat → List C → Option C) : (cxP gl M pu).P = Tryd.prog := rfl
theorem cxP_N (gl : Nat → C) (M : Nat) (pu : Nat → List C → Option C) : (cxP gl M pu).N = M := rfl
theorem cxP_pu (gl : Nat → C) (M : Nat) (pu : Nat → List C → Option C) : (cxP gl M pu).pu = pu := rfl
theorem cxP_hp (gl : Nat → C) (M : Nat) (pu : Nat → List C → Option C) : (cxP gl M pu).hp = fun _ _ _ => none := rfl
theorem cxP_gl (gl : Nat → C) (M : Nat) (pu : Nat → List C → Option C) : (cxP gl M pu).gl = gl := rfl
theorem hMO {gl : Nat → C} {M : Nat} {pu : Nat → List C → Option C} : (cxP gl M pu).P.follows .mixedOrders = true := by
  rw [cxP_P]; kernel_rfl
theorem glN_0 : glN 0 = .kp [.val (.int .i64 (-1)),.val (.int .i64 0),.val (.int .i64 0)] := rfl
theorem glN_noRef : ∀ g,noRef 0 (glN g) = true := fun g => by
  unfold glN; split <;> rfl
attribute [go_sem] isG_mk cxP_gr cxP_P cxP_N cxP_pu cxP_hp cxP_gl
end Go.Sx
namespace Go.Sx
open Go.RowKit Go.Proofs
set_option maxRecDepth 10000
abbrev ID := Int × Int × Int
def iD (x : ID) : List C := [.val (.int .i64 x.1),.val (.int .i64 x.2.1),.val (.int .i64 x.2.2)]
abbrev Psg := ID × Int × Int × List UInt8 × List ID
def pC (x : Psg) : List C := [.val (.int .i64 x.1.1),.val (.int .i64 x.1.2.1),.val (.int .i64 x.1.2.2),.val (.int .i64 x.2.1),.val (.int .i64 x.2.2.1),.val (str x.2.2.2.1),sl iD .no x.2.2.2.2]
abbrev Art := List UInt8 × List Psg
def aC (x : Art) : List C := [.val (str x.1),sl pC .no x.2]
abbrev Vol := List Art
def vC (x : Vol) : List C := [sl aC .no x]
abbrev Wrk := List Vol
instance : Cel iD 3 := ⟨fun _ => rfl,fun _ => rfl,by decide,fun _ _ => rfl⟩
instance : Cel pC 7 := ⟨fun _ => rfl,fun _ => rfl,by decide,fun _ _ => rfl⟩
instance : Cel aC 2 := ⟨fun _ => rfl,fun _ => rfl,by decide,fun _ _ => rfl⟩
instance : Sca vC (sl aC .no) := ⟨fun _ => rfl,fun _ => rfl,fun _ => rfl,fun _ _ => rfl⟩
instance : Fla iD := ⟨fun _ => rfl⟩
instance : Nrf pC := ⟨fun k x => by simp only [pC,noRefs,noRef,noRef_sl,Bool.and_self]⟩
instance : Nrf aC := ⟨fun k x => by simp only [aC,noRefs,noRef,noRef_sl,Bool.and_self]⟩
instance : Nrf vC := ⟨fun k x => by simp only [vC,noRefs,noRef,noRef_sl,Bool.and_self]⟩
instance : Inj iD := ⟨fun a b h => by
  obtain ⟨a1,a2,a3⟩ := a; obtain ⟨b1,b2,b3⟩ := b
  simp only [iD,List.cons.injEq,C.val.injEq,Value.int.injEq,true_and,and_true] at h
  obtain ⟨rfl,rfl,rfl⟩ := h; rfl⟩
instance : Inj pC := ⟨fun a b h => by
  obtain ⟨⟨a1,a2,a3⟩,a4,a5,a6,a7⟩ := a; obtain ⟨⟨b1,b2,b3⟩,b4,b5,b6,b7⟩ := b
  simp only [pC,List.cons.injEq,C.val.injEq,Value.int.injEq,str_inj,sl_inj,true_and,and_true] at h
  obtain ⟨rfl,rfl,rfl,rfl,rfl,rfl,rfl⟩ := h; rfl⟩
instance : Inj aC := ⟨fun a b h => by
  obtain ⟨a1,a2⟩ := a; obtain ⟨b1,b2⟩ := b
  simp only [aC,List.cons.injEq,C.val.injEq,str_inj,sl_inj,true_and,and_true] at h
  obtain ⟨rfl,rfl⟩ := h; rfl⟩
instance : Inj vC := ⟨fun a b h => by
  simp only [vC,List.cons.injEq,sl_inj,and_true] at h; exact h⟩
theorem iD_noR (x : ID) : List.map C.noR (iD x) = iD x := rfl
theorem pC_noR (x : Psg) : List.map C.noR (pC x) = pC x := rfl
theorem aC_noR (x : Art) : List.map C.noR (aC x) = aC x := rfl
theorem vC_noR (x : Vol) : List.map C.noR (vC x) = vC x := rfl
theorem rda_drop (xs : List C) (k o n : Nat) (h : k ≤ xs.length) : rda (xs.drop k) o n = rda xs (k + o) n := by
  unfold rda
  rw [List.length_drop,List.drop_drop]
  by_cases e : k + o + n ≤ xs.length
  · rw [if_pos (by omega),if_pos e]
  · rw [if_neg (by omega),if_neg e]
theorem rdcE {α : Type} [Inhabited α] (f : α → List C) {s : Nat} [hf : Cel f s] (l : List α) (k j : Nat) (h : k < l.length) (hj : j < s) : rdc (cl f l) (k * s + j) = rdc (f (gt l k)) j := by
  unfold rdc
  have e : gt l k = l[k] := by simp [gt,List.getD,List.getElem?_eq_getElem h]
  rw [cl_getq (f := f) l k j hj,List.getElem?_eq_getElem h,e]
  rfl
theorem rdaE {α : Type} [Inhabited α] (f : α → List C) {s : Nat} [hf : Cel f s] (l : List α) (k j n : Nat) (h : k < l.length) (hj : j + n ≤ s) : rda (cl f l) (k * s + j) n = rda (f (gt l k)) j n := by
  have e : l[k]? = some (gt l k) := by simp [gt,List.getD,List.getElem?_eq_getElem h]
  have ha := cl_at (f := f) l k _ e
  have hl := cl_len (f := f) l
  have hlf := hf.len (gt l k)
  have hk : k * s + s ≤ l.length * s := by
    have : (k + 1) * s ≤ l.length * s := Nat.mul_le_mul_right s h
    rw [Nat.add_mul,Nat.one_mul] at this; exact this
  unfold rda
  rw [if_pos (by rw [hl]; omega),if_pos (by rw [hlf]; omega)]
  congr 3
  rw [← ha,List.drop_take,List.take_take,Nat.min_eq_left (by omega),List.drop_drop]
theorem set_apx (k : Hp) (x y : Option (List C)) : (k ++ [x]).set k.length y = k ++ [y] := by simp
theorem at_apx (k : Hp) (x : Option (List C)) : Hp.at (k ++ [x]) k.length = liveC x := by rw [Hp.at_append,if_pos rfl]
theorem get_apx (k : Hp) (x : Option (List C)) : (k ++ [x])[k.length]? = some x := by simp
theorem live_pC (x : Psg) : liveC (some (pC x)) = some (pC x) := rfl
theorem live_aC (x : Art) : liveC (some (aC x)) = some (aC x) := rfl
theorem live_vC (x : Vol) : liveC (some (vC x)) = some (vC x) := rfl
theorem rda_iD (x : ID) : rda (iD x) 0 3 = some (.agg (iD x)) := rfl
theorem rda_pC (x : Psg) : rda (pC x) 0 7 = some (.agg (pC x)) := rfl
theorem rda_pC3 (x : Psg) : rda (pC x) 0 3 = some (.agg (iD x.1)) := rfl
theorem faG {P : Program} {t i ft k : Nat} {fs : Array Field} {fd : Field} {de : TD} {s y : Nat} {z : List Value} (h1 : td P t = some ⟨.struct fs,s,y,z⟩) (h2 : fs[i]? = some fd) (ht : fd.type = ft) (hk : fd.offset = k) (h3 : td P ft = some de) (h4 : ¬ de.size = 0) (b o : Nat) : fieldAddrPlan P t (.bp b o) i = some (vp (.bp b (o + k))) := by
  subst ht hk
  unfold fieldAddrPlan; simp only [h1,h2,h3,if_neg h4]; rfl
theorem fkG {P : Program} {t i ft k : Nat} {fs : Array Field} {fd : Field} {de : TD} {s y : Nat} {z : List Value} (h1 : td P t = some ⟨.struct fs,s,y,z⟩) (h2 : fs[i]? = some fd) (ht : fd.type = ft) (hk : fd.offset = k) (h3 : td P ft = some de) (h4 : ¬ de.size = 0) (xs : List C) (h : k ≤ xs.length) : fieldAddrPlan P t (.kp xs) i = some (vp (.kp (xs.drop k))) := by
  subst ht hk
  unfold fieldAddrPlan; simp only [h1,h2,h3,if_neg h4,if_pos h]; rfl
theorem wrz_iD (a b c : C) (x : ID) : wrc [a,b,c] 0 (iD x) = some (iD x,.val undef) := rfl
theorem stB_iD (fs : Array Field) (b o y : Nat) (z : List Value) (x : ID) : stB (some ⟨.struct fs,3,y,z⟩) b o (some (iD x)) = some (.wr b (fun cells => wrc cells o (iD x)) none) := rfl
theorem wrz_pC (a b c d e f g : C) (x : Psg) : wrc [a,b,c,d,e,f,g] 0 (pC x) = some (pC x,.val undef) := rfl
theorem stB_pC (fs : Array Field) (b o y : Nat) (z : List Value) (x : Psg) : stB (some ⟨.struct fs,7,y,z⟩) b o (some (pC x)) = some (.wr b (fun cells => wrc cells o (pC x)) none) := rfl
theorem len_pC (x : Psg) : (pC x).length = 7 := rfl
theorem wrz_aC (a b : C) (x : Art) : wrc [a,b] 0 (aC x) = some (aC x,.val undef) := rfl
theorem stB_aC (fs : Array Field) (b o y : Nat) (z : List Value) (x : Art) : stB (some ⟨.struct fs,2,y,z⟩) b o (some (aC x)) = some (.wr b (fun cells => wrc cells o (aC x)) none) := rfl
theorem wrz_vC (a : C) (x : Vol) : wrc [a] 0 (vC x) = some (vC x,.val undef) := rfl
theorem stB_vC (fs : Array Field) (b o y : Nat) (z : List Value) (x : Vol) : stB (some ⟨.struct fs,1,y,z⟩) b o (some (vC x)) = some (.wr b (fun cells => wrc cells o (vC x)) none) := rfl
theorem rdc_iD_0 (x : ID) : rdc (iD x) 0 = some (.val (.int .i64 x.1)) := rfl
theorem rdc_iD_1 (x : ID) : rdc (iD x) 1 = some (.val (.int .i64 x.2.1)) := rfl
theorem rdc_iD_2 (x : ID) : rdc (iD x) 2 = some (.val (.int .i64 x.2.2)) := rfl
theorem rda_cliD (l : List ID) (k : Nat) (h : k < l.length) : rda (cl iD l) (k * 3) 3 = some (.agg (iD (gt l k))) := by
  have := rdaE iD l k 0 3 h (by decide)
  rw [Nat.add_zero] at this
  exact this
theorem rdc_pC_3 (x : Psg) : rdc (pC x) 3 = some (.val (.int .i64 x.2.1)) := rfl
theorem rdc_clpC_3 (l : List Psg) (k : Nat) (h : k < l.length) : rdc (cl pC l) (k * 7 + 3) = some (.val (.int .i64 (gt l k).2.1)) := by
  have := rdcE pC l k 3 h (by decide)
  exact this
theorem rdc_pC_4 (x : Psg) : rdc (pC x) 4 = some (.val (.int .i64 x.2.2.1)) := rfl
theorem rdc_pC_5 (x : Psg) : rdc (pC x) 5 = some (.val (str x.2.2.2.1)) := rfl
theorem rdc_pC_6 (x : Psg) : rdc (pC x) 6 = some (sl iD .no x.2.2.2.2) := rfl
theorem rdc_clpC_6 (l : List Psg) (k : Nat) (h : k < l.length) : rdc (cl pC l) (k * 7 + 6) = some (sl iD .no (gt l k).2.2.2.2) := by
  have := rdcE pC l k 6 h (by decide)
  exact this
theorem rda_clpC (l : List Psg) (k : Nat) (h : k < l.length) : rda (cl pC l) (k * 7) 7 = some (.agg (pC (gt l k))) := by
  have := rdaE pC l k 0 7 h (by decide)
  rw [Nat.add_zero] at this
  exact this
theorem rda_clpC3 (l : List Psg) (k : Nat) (h : k < l.length) : rda (cl pC l) (k * 7) 3 = some (.agg (iD (gt l k).1)) := by
  have := rdaE pC l k 0 3 h (by decide)
  rw [Nat.add_zero] at this
  exact this
theorem rdc_aC_0 (x : Art) : rdc (aC x) 0 = some (.val (str x.1)) := rfl
theorem rdc_claC_0 (l : List Art) (k : Nat) (h : k < l.length) : rdc (cl aC l) (k * 2) = some (.val (str (gt l k).1)) := by
  have := rdcE aC l k 0 h (by decide)
  rw [Nat.add_zero] at this
  exact this
theorem rdc_aC_1 (x : Art) : rdc (aC x) 1 = some (sl pC .no x.2) := rfl
theorem rdc_claC_1 (l : List Art) (k : Nat) (h : k < l.length) : rdc (cl aC l) (k * 2 + 1) = some (sl pC .no (gt l k).2) := by
  have := rdcE aC l k 1 h (by decide)
  exact this
theorem rda_claC (l : List Art) (k : Nat) (h : k < l.length) : rda (cl aC l) (k * 2) 2 = some (.agg (aC (gt l k))) := by
  have := rdaE aC l k 0 2 h (by decide)
  rw [Nat.add_zero] at this
  exact this
theorem rdc_vC_0 (x : Vol) : rdc (vC x) 0 = some (sl aC .no x) := rfl
theorem rdc_clvC_0 (l : List Vol) (k : Nat) (h : k < l.length) : rdc (cl vC l) (k) = some (sl aC .no (gt l k)) := by
  have := rdcE vC l k 0 h (by decide)
  rw [Nat.mul_one,Nat.add_zero] at this
  exact this
theorem rda_clvC (l : List Vol) (k : Nat) (h : k < l.length) : rda (cl vC l) (k) 1 = some (.agg (vC (gt l k))) := by
  have := rdaE vC l k 0 1 h (by decide)
  rw [Nat.mul_one,Nat.add_zero] at this
  exact this
theorem wrc2_0 (a b x : C) : wrc [a,b] 0 [x] = some ([x,b],.val undef) := rfl
theorem wrc2_1 (a b x : C) : wrc [a,b] 1 [x] = some ([a,x],.val undef) := rfl
theorem wrs2_1 (a b x : C) : wrs [a,b] 1 x = some ([a,x],.val undef) := rfl
theorem wrc3_0 (a b c x : C) : wrc [a,b,c] 0 [x] = some ([x,b,c],.val undef) := rfl
theorem wrc3_1 (a b c x : C) : wrc [a,b,c] 1 [x] = some ([a,x,c],.val undef) := rfl
theorem wrc3_2 (a b c x : C) : wrc [a,b,c] 2 [x] = some ([a,b,x],.val undef) := rfl
theorem wrc7_3 (a b c d e f g x : C) : wrc [a,b,c,d,e,f,g] 3 [x] = some ([a,b,c,x,e,f,g],.val undef) := rfl
theorem wrc7_4 (a b c d e f g x : C) : wrc [a,b,c,d,e,f,g] 4 [x] = some ([a,b,c,d,x,f,g],.val undef) := rfl
theorem wrc7_5 (a b c d e f g x : C) : wrc [a,b,c,d,e,f,g] 5 [x] = some ([a,b,c,d,e,x,g],.val undef) := rfl
theorem wrc7_6 (a b c d e f g x : C) : wrc [a,b,c,d,e,f,g] 6 [x] = some ([a,b,c,d,e,f,x],.val undef) := rfl
theorem wrs7_6 (a b c d e f g x : C) : wrs [a,b,c,d,e,f,g] 6 x = some ([a,b,c,d,e,f,x],.val undef) := rfl
theorem fa34_0 (b o : Nat) : fieldAddrPlan Tryd.prog 34 (.bp b o) 0 = some (vp (.bp b (o + 0))) := @faG Tryd.prog 34 0 3 0 _ _ _ _ _ _ td34 rfl rfl rfl td3 (by decide) b o
theorem fa34_1 (b o : Nat) : fieldAddrPlan Tryd.prog 34 (.bp b o) 1 = some (vp (.bp b (o + 1))) := @faG Tryd.prog 34 1 3 1 _ _ _ _ _ _ td34 rfl rfl rfl td3 (by decide) b o
theorem fa34_2 (b o : Nat) : fieldAddrPlan Tryd.prog 34 (.bp b o) 2 = some (vp (.bp b (o + 2))) := @faG Tryd.prog 34 2 3 2 _ _ _ _ _ _ td34 rfl rfl rfl td3 (by decide) b o
theorem fa60_0 (b o : Nat) : fieldAddrPlan Tryd.prog 60 (.bp b o) 0 = some (vp (.bp b (o + 0))) := @faG Tryd.prog 60 0 3 0 _ _ _ _ _ _ td60 rfl rfl rfl td3 (by decide) b o
theorem fa60_1 (b o : Nat) : fieldAddrPlan Tryd.prog 60 (.bp b o) 1 = some (vp (.bp b (o + 1))) := @faG Tryd.prog 60 1 3 1 _ _ _ _ _ _ td60 rfl rfl rfl td3 (by decide) b o
theorem fa60_2 (b o : Nat) : fieldAddrPlan Tryd.prog 60 (.bp b o) 2 = some (vp (.bp b (o + 2))) := @faG Tryd.prog 60 2 3 2 _ _ _ _ _ _ td60 rfl rfl rfl td3 (by decide) b o
theorem fa37_0 (b o : Nat) : fieldAddrPlan Tryd.prog 37 (.bp b o) 0 = some (vp (.bp b (o + 0))) := @faG Tryd.prog 37 0 34 0 _ _ _ _ _ _ td37 rfl rfl rfl td34 (by decide) b o
theorem fk37_0 (xs : List C) (h : 0 ≤ xs.length) : fieldAddrPlan Tryd.prog 37 (.kp xs) 0 = some (vp (.kp (xs.drop 0))) := @fkG Tryd.prog 37 0 34 0 _ _ _ _ _ _ td37 rfl rfl rfl td34 (by decide) xs h
theorem fa37_1 (b o : Nat) : fieldAddrPlan Tryd.prog 37 (.bp b o) 1 = some (vp (.bp b (o + 3))) := @faG Tryd.prog 37 1 3 3 _ _ _ _ _ _ td37 rfl rfl rfl td3 (by decide) b o
theorem fk37_1 (xs : List C) (h : 3 ≤ xs.length) : fieldAddrPlan Tryd.prog 37 (.kp xs) 1 = some (vp (.kp (xs.drop 3))) := @fkG Tryd.prog 37 1 3 3 _ _ _ _ _ _ td37 rfl rfl rfl td3 (by decide) xs h
theorem fa37_2 (b o : Nat) : fieldAddrPlan Tryd.prog 37 (.bp b o) 2 = some (vp (.bp b (o + 4))) := @faG Tryd.prog 37 2 3 4 _ _ _ _ _ _ td37 rfl rfl rfl td3 (by decide) b o
theorem fa37_3 (b o : Nat) : fieldAddrPlan Tryd.prog 37 (.bp b o) 3 = some (vp (.bp b (o + 5))) := @faG Tryd.prog 37 3 9 5 _ _ _ _ _ _ td37 rfl rfl rfl td9 (by decide) b o
theorem fa37_4 (b o : Nat) : fieldAddrPlan Tryd.prog 37 (.bp b o) 4 = some (vp (.bp b (o + 6))) := @faG Tryd.prog 37 4 35 6 _ _ _ _ _ _ td37 rfl rfl rfl td35 (by decide) b o
theorem fk37_4 (xs : List C) (h : 6 ≤ xs.length) : fieldAddrPlan Tryd.prog 37 (.kp xs) 4 = some (vp (.kp (xs.drop 6))) := @fkG Tryd.prog 37 4 35 6 _ _ _ _ _ _ td37 rfl rfl rfl td35 (by decide) xs h
theorem fa46_0 (b o : Nat) : fieldAddrPlan Tryd.prog 46 (.bp b o) 0 = some (vp (.bp b (o + 0))) := @faG Tryd.prog 46 0 44 0 _ _ _ _ _ _ td46 rfl rfl rfl td44 (by decide) b o
theorem fk46_0 (xs : List C) (h : 0 ≤ xs.length) : fieldAddrPlan Tryd.prog 46 (.kp xs) 0 = some (vp (.kp (xs.drop 0))) := @fkG Tryd.prog 46 0 44 0 _ _ _ _ _ _ td46 rfl rfl rfl td44 (by decide) xs h
theorem fa48_0 (b o : Nat) : fieldAddrPlan Tryd.prog 48 (.bp b o) 0 = some (vp (.bp b (o + 0))) := @faG Tryd.prog 48 0 9 0 _ _ _ _ _ _ td48 rfl rfl rfl td9 (by decide) b o
theorem fk48_0 (xs : List C) (h : 0 ≤ xs.length) : fieldAddrPlan Tryd.prog 48 (.kp xs) 0 = some (vp (.kp (xs.drop 0))) := @fkG Tryd.prog 48 0 9 0 _ _ _ _ _ _ td48 rfl rfl rfl td9 (by decide) xs h
theorem fa48_1 (b o : Nat) : fieldAddrPlan Tryd.prog 48 (.bp b o) 1 = some (vp (.bp b (o + 1))) := @faG Tryd.prog 48 1 30 1 _ _ _ _ _ _ td48 rfl rfl rfl td30 (by decide) b o
theorem fk48_1 (xs : List C) (h : 1 ≤ xs.length) : fieldAddrPlan Tryd.prog 48 (.kp xs) 1 = some (vp (.kp (xs.drop 1))) := @fkG Tryd.prog 48 1 30 1 _ _ _ _ _ _ td48 rfl rfl rfl td30 (by decide) xs h
theorem fa29_0 (b o : Nat) : fieldAddrPlan Tryd.prog 29 (.bp b o) 0 = some (vp (.bp b (o + 0))) := @faG Tryd.prog 29 0 27 0 _ _ _ _ _ _ td29 rfl rfl rfl td27 (by decide) b o
theorem fk29_0 (xs : List C) (h : 0 ≤ xs.length) : fieldAddrPlan Tryd.prog 29 (.kp xs) 0 = some (vp (.kp (xs.drop 0))) := @fkG Tryd.prog 29 0 27 0 _ _ _ _ _ _ td29 rfl rfl rfl td27 (by decide) xs h
attribute [go_sem] len_pC stB_iD stB_pC stB_aC stB_vC rda_drop set_apx at_apx get_apx live_pC live_aC live_vC rda_iD rda_pC rda_pC3 rdc_iD_0 rdc_iD_1 rdc_iD_2 rdc_pC_3 rdc_pC_4 rdc_pC_5 rdc_pC_6 rdc_aC_0 rdc_aC_1 rdc_vC_0 fa34_0 fa34_1 fa34_2 fa60_0 fa60_1 fa60_2 fa37_0 fk37_0 fa37_1 fk37_1 fa37_2 fa37_3 fa37_4 fk37_4 fa46_0 fk46_0 fa48_0 fk48_0 fa48_1 fk48_1 fa29_0 fk29_0
attribute [go_sem high] wrz_iD wrz_pC wrz_aC wrz_vC iD_noR pC_noR aC_noR vC_noR rda_cliD rdc_clpC_3 rdc_clpC_6 rda_clpC rda_clpC3 rdc_claC_0 rdc_claC_1 rda_claC rdc_clvC_0 rda_clvC wrc2_0 wrc2_1 wrs2_1 wrc3_0 wrc3_1 wrc3_2 wrc7_3 wrc7_4 wrc7_5 wrc7_6 wrs7_6
end Go.Sx
namespace Go.Sx
end Go.Sx
namespace Go.Sx
structure Tok where
  a : Nat
  e : Nat
  k : Nat
deriving DecidableEq
instance : Inhabited Tok := ⟨⟨0,0,0⟩⟩
def kd (c : UInt8) : Nat := if (97 ≤ c ∧ c ≤ 122) ∨ (65 ≤ c ∧ c ≤ 90) then 0 else if 48 ≤ c ∧ c ≤ 57 then 1 else if c = 64 then 3 else 2
theorem all8 (p : UInt8 → Bool) (h : (List.range 256).all (fun n => p (UInt8.ofNat n)) = true) (c : UInt8) : p c = true := by
  have h1 := List.all_eq_true.1 h c.toNat (List.mem_range.2 c.toNat_lt)
  have h2 : UInt8.ofNat c.toNat = c := UInt8.toNat_inj.1 (by simp)
  rwa [h2] at h1
theorem kd_le (c : UInt8) : kd c ≤ 3 := by
  have := all8 (fun c => decide (kd c ≤ 3)) (by decide +kernel) c
  simpa using this
theorem kd_blank : kd 32 = 2 := by decide
def spl (p : Nat) : Option (Nat × Nat) → List UInt8 → List Tok
  | none,[] => []
  | some (a,k),[] => [⟨a,p,k⟩]
  | none,c :: r => if c = 32 then spl (p + 1) none r else spl (p + 1) (some (p,kd c)) r
  | some (a,k),c :: r => if c ≠ 32 ∧ k < 2 ∧ kd c = k then spl (p + 1) (some (a,k)) r else
      ⟨a,p,k⟩ :: (if c = 32 then spl (p + 1) none r else spl (p + 1) (some (p,kd c)) r)
def toks (s : List UInt8) : List Tok := spl 0 none s
def rnL (k : Nat) : List UInt8 → Nat
  | [] => 0
  | c :: r => if k < 2 ∧ kd c = k then rnL k r + 1 else 0
theorem rnL_le (k : Nat) : ∀ l,rnL k l ≤ l.length
  | [] => Nat.le_refl _
  | c :: r => by
    unfold rnL
    have := rnL_le k r
    split <;> simp <;> omega
theorem spl_none_cons (p : Nat) (c : UInt8) (r : List UInt8) : spl p none (c :: r) = if c = 32 then spl (p + 1) none r else spl (p + 1) (some (p,kd c)) r := rfl
theorem spl_open (a k : Nat) : ∀ (l : List UInt8) (p : Nat),spl p (some (a,k)) l = ⟨a,p + rnL k l,k⟩ :: spl (p + rnL k l) none (l.drop (rnL k l))
  | [],p => rfl
  | c :: r,p => by
    by_cases h : k < 2 ∧ kd c = k
    · have hc : c ≠ 32 := by rintro rfl; rw [kd_blank] at h; omega
      have e1 : spl p (some (a,k)) (c :: r) = spl (p + 1) (some (a,k)) r := if_pos ⟨hc,h⟩
      have e2 : rnL k (c :: r) = rnL k r + 1 := if_pos h
      rw [e1,e2,spl_open a k r (p + 1),List.drop_succ_cons]
      rw [show p + 1 + rnL k r = p + (rnL k r + 1) by omega]
    · have e1 : spl p (some (a,k)) (c :: r) = ⟨a,p,k⟩ :: spl p none (c :: r) := if_neg (fun h' => h h'.2)
      have e2 : rnL k (c :: r) = 0 := if_neg h
      rw [e1,e2]
      rfl
theorem spl_tok (p : Nat) (c : UInt8) (r : List UInt8) (h : c ≠ 32) : spl p none (c :: r) = ⟨p,p + 1 + rnL (kd c) r,kd c⟩ :: spl (p + 1 + rnL (kd c) r) none (r.drop (rnL (kd c) r)) := by
  rw [spl_none_cons,if_neg h,spl_open]
theorem spl_blank (p : Nat) (r : List UInt8) : spl p none (32 :: r) = spl (p + 1) none r := by rw [spl_none_cons,if_pos rfl]
def Lie (lo hi : Nat) : List Tok → Prop
  | [] => lo ≤ hi
  | t :: r => lo ≤ t.a ∧ t.a < t.e ∧ t.e ≤ hi ∧ t.k ≤ 3 ∧ Lie t.e hi r
theorem Lie.mono {lo lo' hi : Nat} (h : lo' ≤ lo) : ∀ {l : List Tok},Lie lo hi l → Lie lo' hi l
  | [],k => Nat.le_trans h k
  | t :: r,k => ⟨Nat.le_trans h k.1,k.2⟩
theorem spl_lie : ∀ (l : List UInt8) (p : Nat),Lie p (p + l.length) (spl p none l) ∧ ∀ a k,a < p → k ≤ 3 → Lie a (p + l.length) (spl p (some (a,k)) l)
  | [],p => ⟨Nat.le_refl _,fun a k h hk => ⟨Nat.le_refl _,h,Nat.le_refl _,hk,Nat.le_refl _⟩⟩
  | c :: r,p => by
    obtain ⟨i1,i2⟩ := spl_lie r (p + 1)
    have e : p + 1 + r.length = p + (c :: r).length := by simp; omega
    rw [e] at i1 i2
    have hno : Lie p (p + (c :: r).length) (if c = 32 then spl (p + 1) none r else spl (p + 1) (some (p,kd c)) r) := by
      split
      · exact i1.mono (by omega)
      · exact i2 p (kd c) (by omega) (kd_le c)
    refine ⟨by rw [spl_none_cons]; exact hno,fun a k h hk => ?_⟩
    unfold spl
    split
    · exact i2 a k (by omega) hk
    · exact ⟨Nat.le_refl _,h,Nat.le_add_right _ _,hk,hno⟩
theorem toks_lie (s : List UInt8) : Lie 0 s.length (toks s) := by
  have := (spl_lie s 0).1
  rwa [Nat.zero_add] at this
theorem Lie.len {lo hi : Nat} : ∀ {l : List Tok},Lie lo hi l → l.length + lo ≤ hi
  | [],h => by simpa [Lie] using h
  | t :: r,h => by
    have := h.2.2.2.2.len
    have := h.1
    have := h.2.1
    simp; omega
theorem toks_len (s : List UInt8) : (toks s).length ≤ s.length := by have := (toks_lie s).len; omega
def badAt (s : List UInt8) (i : Nat) : Bool := decide (gt s i < 32) || decide (126 < gt s i) || (decide (gt s i = 32) && (decide (i = 0) || decide (i + 1 = s.length) || decide (gt s (i - 1) = 32)))
def bad (s : List UInt8) : Bool := (List.range s.length).any (badAt s)
def validE (s : List UInt8) : Nat := if 4096 < s.length then 4 else if bad s = true then 2 else if s = [] then 2 else if 256 < (toks s).length then 4 else 0
def partT (s : List UInt8) (f t : Nat) : List UInt8 := (s.drop (gt (toks s) f).a).take ((gt (toks s) (t - 1)).e - (gt (toks s) f).a)
def part (s : List UInt8) (f t : Int) : List UInt8 := if f < 0 ∨ t ≤ f ∨ ((toks s).length : Int) < t then [] else partT s f.toNat t.toNat
def ofK (k : Nat) (l : List Tok) : List Nat := (List.range l.length).filter fun i => decide ((gt l i).k = k)
def marksT (s : List UInt8) : List Nat := ofK 3 (toks s)
end Go.Sx
namespace Go.Sx
open Go.RowKit Go.Proofs
set_option maxRecDepth 10000
def tC (t : Tok) : List C := [.val (nI t.a),.val (nI t.e),.val (nI t.k)]
instance : Cel tC 3 := ⟨fun _ => rfl,fun _ => rfl,by decide,fun _ _ => rfl⟩
instance : Fla tC := ⟨fun _ => rfl⟩
instance : Inj tC := ⟨fun a b h => by
  cases a; cases b
  simp only [tC,List.cons.injEq,C.val.injEq,nI_inj,and_true] at h
  obtain ⟨rfl,rfl,rfl⟩ := h; rfl⟩
theorem bsA_tok (u : TypeDesc) (y : Nat) (z : List Value) (a e k : Nat) (hz : z.length = 3) (h1 : z.all (·.oneCell') = true) : bsA (some ⟨u,3,y,z⟩) 1 [(0,.agg [.val (nI a),.val (nI e),.val (nI k)])] = some (vp (sl tC .full [⟨a,e,k⟩])) := by
  unfold bsA
  simp only [hz,h1]
  rw [if_pos ⟨by decide,by decide,trivial,trivial⟩]
  have hr : (repZero z 1).length = 3 := by simp [repZero,hz]
  unfold lay
  have hc : C.cells? (.agg [.val (nI a),.val (nI e),.val (nI k)]) = some [.val (nI a),.val (nI e),.val (nI k)] := rfl
  simp only [hc]
  rw [if_pos ⟨rfl,by omega⟩]
  unfold lay
  simp only [Option.map_some,splice,Nat.zero_mul,List.take_zero,List.nil_append,Nat.zero_add]
  rw [List.drop_of_length_le (by rw [hr]; exact Nat.le_refl _),List.append_nil]
  rfl
theorem tC_noR (t : Tok) : List.map C.noR (tC t) = tC t := rfl
theorem wrc3_t (a b c : C) (t : Tok) : wrc [a,b,c] 0 (tC t) = some (tC t,.val undef) := rfl
theorem bsA_nI1 (u : TypeDesc) (y : Nat) (v : Value) (i : Nat) (h : v.oneCell' = true) : bsA (some ⟨u,1,y,[v]⟩) 1 [(0,.val (nI i))] = some (vp (sl nC .full [i])) := by
  rw [bsA_one u y 1 v _ h (by decide)]; rfl
theorem rdc_tC_2 (x : Tok) : rdc (tC x) 2 = some (.val (nI x.k)) := rfl
theorem rda_cltC (l : List Tok) (k : Nat) (h : k < l.length) : rda (cl tC l) (k * 3) 3 = some (.agg (tC (gt l k))) := by
  have := rdaE tC l k 0 3 h (by decide)
  rw [Nat.add_zero] at this
  exact this
theorem stB_tC (fs : Array Field) (b o y : Nat) (z : List Value) (x : Tok) : stB (some ⟨.struct fs,3,y,z⟩) b o (some (tC x)) = some (.wr b (fun cells => wrc cells o (tC x)) none) := rfl
theorem fa143_2 (b o : Nat) : fieldAddrPlan Tryd.prog 143 (.bp b o) 2 = some (vp (.bp b (o + 2))) := @faG Tryd.prog 143 2 3 2 _ _ _ _ _ _ td143 rfl rfl rfl td3 (by decide) b o
attribute [go_sem] bsA_tok rdc_tC_2 stB_tC fa143_2
attribute [go_sem high] tC_noR wrc3_t bsA_nI1 rda_cltC
end Go.Sx
namespace Go.Sx
open Go.RowKit Go.Proofs
set_option maxRecDepth 100000
set_option maxHeartbeats 8000000
end Go.Sx
namespace Go.Sx
open Go.RowKit Go.Proofs
set_option maxRecDepth 100000
set_option maxHeartbeats 8000000
end Go.Sx
