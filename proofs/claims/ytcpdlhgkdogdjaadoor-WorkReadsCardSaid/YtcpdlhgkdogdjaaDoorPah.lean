/-
   And what follows.
-/
import Derived.Deep.LoopGhost
import Derived.Test.YtcpdlhgkdogdjaaDoorPag
set_option linter.unusedSimpArgs false
set_option linter.unusedVariables false
namespace Go.Sx
open Go.RowKit
def RunF (cx : Cx) (ops : Array Oper) (base : Nat) (F : Nat → FP) : List Nat → St → St → Prop
  | [],st,fin => st = fin
  | i :: l,st,fin => ∃ st',stepF cx ops base i st = some (st',F i) ∧ RunF cx ops base F l st' fin
def maskOf (acc : List Nat) (o : Oper) : Nat := o.after.toList.foldl (fun s e => if Region.binds .any e then s ||| 2 ^ e.on ||| (acc[e.on]?).getD 0 else s) 0
def depAux : List Oper → List Nat → List Nat
  | [],acc => acc
  | o :: r,acc => depAux r (acc ++ [maskOf acc o])
def depM (ops : Array Oper) : List Nat := depAux ops.toList []
def waits (d : List Nat) (i k : Nat) : Bool := ((d[i]?).getD 0).testBit k
def regStatic (ops : Array Oper) : Bool :=
  let d := depM ops
  (ops.toList.zipIdx.all fun x => x.1.after.toList.all fun e => !Region.binds .any e || decide (e.on < x.2)) &&
  ops.toList.zipIdx.all fun x => ops.toList.zipIdx.all fun y => !decide (y.2 < x.2) || waits d x.2 y.2 || apart ops y.1 x.1
def confsOK (ops : Array Oper) (fps : List FP) : Bool :=
  let d := depM ops
  fps.zipIdx.all fun x => x.1.1 == 0 || fps.zipIdx.all fun y => !decide (y.2 < x.2) || y.1.1 == 0 || waits d x.2 y.2 || noConf y.1 x.1
def runL (cx : Cx) (ops : Array Oper) (base : Nat) : List Nat → St → Option (St × List FP)
  | [],st => some (st,[])
  | i :: l,st => match stepF cx ops base i st with
    | none => none
    | some (st',f) => (runL cx ops base l st').map fun r => (r.1,f :: r.2)
def sregionD (cx : Cx) (ops : Array Oper) (st : St) : Option St :=
  match runL cx ops st.h.length (List.range ops.size) ⟨st.env,st.h ++ List.replicate (cnt ops ops.size) none⟩ with
  | some (st',fps) => if confsOK ops fps = true then some st' else none
  | none => none
section
variable {cx : Cx} {G : Gh} {w : World} {st : St} {a : Act} {P : Program} {ops : Array Oper} {base : Nat}
theorem runF_front {F : Nat → FP} {i : Nat} {oi : Oper} (hoi : ops[i]? = some oi) : ∀ (l1 : List Nat) {l2 : List Nat} {st fin : St},
    (∀ k ∈ l1,∃ ok,ops[k]? = some ok ∧ apart ops ok oi = true ∧ noConf (F k) (F i) = true) → RunF cx ops base F (l1 ++ i :: l2) st fin →
    ∃ st',stepF cx ops base i st = some (st',F i) ∧ RunF cx ops base F (l1 ++ l2) st' fin
  | [],l2,st,fin,_,h => h
  | k :: l1,l2,st,fin,hk,h => by
    simp only [List.cons_append,RunF] at h
    obtain ⟨st1,h1,h2⟩ := h
    obtain ⟨st2,h3,h4⟩ := runF_front hoi l1 (fun k' hk' => hk k' (by simp [hk'])) h2
    obtain ⟨ok,hok,hap,hc⟩ := hk k (by simp)
    obtain ⟨st1',q1,q2⟩ := stepF_comm hok hoi hap h1 h3 hc
    exact ⟨st1',q1,st2,q2,h4⟩
theorem maskOf_bits {acc : List Nat} {o : Oper} {k : Nat} (h : (maskOf acc o).testBit k = true) : ∃ e ∈ o.after,Region.binds .any e = true ∧ (k = e.on ∨ ((acc[e.on]?).getD 0).testBit k = true) := by
  unfold maskOf at h
  have key : ∀ (l : List Edge) (s : Nat),(l.foldl (fun s e => if Region.binds .any e then s ||| 2 ^ e.on ||| (acc[e.on]?).getD 0 else s) s).testBit k = true →
      s.testBit k = true ∨ ∃ e ∈ l,Region.binds .any e = true ∧ (k = e.on ∨ ((acc[e.on]?).getD 0).testBit k = true) := by
    intro l
    induction l with
    | nil => intro s hs; exact .inl hs
    | cons e l ih =>
      intro s hs
      simp only [List.foldl_cons] at hs
      rcases ih _ hs with h1 | ⟨e',he',h1⟩
      · split at h1
        · rename_i hb
          simp only [Nat.testBit_or,Bool.or_eq_true] at h1
          rcases h1 with (h1 | h1) | h1
          · exact .inl h1
          · refine .inr ⟨e,by simp,hb,.inl ?_⟩
            rw [Nat.testBit_two_pow] at h1
            exact (of_decide_eq_true h1).symm
          · exact .inr ⟨e,by simp,hb,.inr h1⟩
        · exact .inl h1
      · exact .inr ⟨e',by simp [he'],h1⟩
  rcases key _ 0 h with h1 | ⟨e,he,h1⟩
  · simp at h1
  · exact ⟨e,by simpa using he,h1⟩
theorem dep_closed {S : Nat → Prop} (hS : ∀ (j : Nat) (oj : Oper),S j → ops[j]? = some oj → ∀ e ∈ oj.after,Region.binds .any e = true → S e.on) :
    ∀ (i : Nat) (oi : Oper),ops[i]? = some oi → (∀ e ∈ oi.after,Region.binds .any e = true → S e.on) → ∀ k,waits (depM ops) i k = true → S k := by
  have inv : ∀ (r : List Oper) (acc : List Nat),ops.toList.drop acc.length = r → (∀ (i : Nat) (oi : Oper),i < acc.length → ops[i]? = some oi → (∀ e ∈ oi.after,Region.binds .any e = true → S e.on) → ∀ k,((acc[i]?).getD 0).testBit k = true → S k) →
      ∀ (i : Nat) (oi : Oper),ops[i]? = some oi → (∀ e ∈ oi.after,Region.binds .any e = true → S e.on) → ∀ k,(((depAux r acc)[i]?).getD 0).testBit k = true → S k := by
    intro r
    induction r with
    | nil =>
      intro acc hr hacc i oi hoi hd k hk
      simp only [depAux] at hk
      have hlen : ops.size ≤ acc.length := by simpa using hr
      have : i < ops.size := (Array.getElem?_eq_some_iff.1 hoi).1
      exact hacc i oi (by omega) hoi hd k hk
    | cons o r ih =>
      intro acc hr hacc
      simp only [depAux]
      have hget : ops[acc.length]? = some o := by
        have : (ops.toList.drop acc.length)[0]? = some o := by rw [hr]; rfl
        rw [List.getElem?_drop] at this
        simpa using this
      refine ih (acc ++ [maskOf acc o]) ?_ ?_
      · simp only [List.length_append,List.length_singleton]
        rw [← List.drop_drop,hr]; rfl
      · intro i oi hi hoi hd k hk
        by_cases hil : i < acc.length
        · rw [List.getElem?_append_left hil] at hk
          exact hacc i oi hil hoi hd k hk
        · have hia : i = acc.length := by simp at hi; omega
          subst hia
          rw [hget] at hoi
          cases hoi
          rw [List.getElem?_append_right (Nat.le_refl _)] at hk
          simp only [Nat.sub_self,List.getElem?_cons_zero,Option.getD_some] at hk
          obtain ⟨e,he,hb,h1⟩ := maskOf_bits hk
          have hSe := hd e he hb
          rcases h1 with rfl | h1
          · exact hSe
          · by_cases hel : e.on < acc.length
            · have hlt : e.on < ops.size := by
                have : acc.length < ops.size := (Array.getElem?_eq_some_iff.1 hget).1
                omega
              have hoe : ops[e.on]? = some ops[e.on] := Array.getElem?_eq_getElem hlt
              exact hacc e.on _ hel hoe (hS e.on _ hSe hoe) k h1
            · rw [List.getElem?_eq_none (by omega)] at h1
              simp at h1
  intro i oi hoi hd k hk
  exact inv ops.toList [] rfl (fun i _ hi => absurd hi (by simp)) i oi hoi hd k hk
theorem any_ok (hcx : CxOK cx) {r : Option Nat} {F : Nat → FP} {fin : St} {Q : Exit → Act → World → Prop} (hup : ∀ i oi,ops[i]? = some oi → ∀ e ∈ oi.after,Region.binds .any e = true → e.on < i)
    (hpair : ∀ k i ok oi,k < i → ops[k]? = some ok → ops[i]? = some oi → waits (depM ops) i k = true ∨ (apart ops ok oi = true ∧ noConf (F k) (F i) = true)) :
    ∀ (fuel : Nat) (l : List Nat) (listed : Array Bool) {G : Gh} {w : World} {st : St} {a : Act},Sim cx G w st a → RunF cx ops base F l st fin → l.Pairwise (· < ·) → listed.size = ops.size →
      (∀ i,i < ops.size → (listed[i]? = some false ↔ i ∈ l)) → (∀ i ∈ l,i < ops.size) →
      (∀ (j : Nat) (oj : Oper),listed[j]? = some true → ops[j]? = some oj → ∀ e ∈ oj.after,Region.binds .any e = true → listed[e.on]? = some true) → l.length ≤ fuel →
      (∀ G' w' a',Sim cx G' w' fin a' → Frm G w G' w' → a'.defers = a.defers → Q .normal a' w') → wpAnyIn (wF r) 0 cx.P .any ops Q fuel listed a w := by
  have ready_iff : ∀ (listed : Array Bool) (i : Nat),listed.size = ops.size → (i ∈ Region.ready .any ops listed ↔ i < ops.size ∧ listed[i]? = some false ∧ ∀ oi,ops[i]? = some oi → ∀ e ∈ oi.after,Region.binds .any e = true → listed[e.on]? = some true) := by
    intro listed i hsz
    unfold Region.ready
    simp only [List.mem_filter,List.mem_range,Bool.and_eq_true]
    constructor
    · rintro ⟨hi,h1,h2⟩
      have hl : listed[i]? = some listed[i] := Array.getElem?_eq_getElem (by omega)
      refine ⟨hi,?_,fun oi hoi e he hb => ?_⟩
      · rw [hl]
        simp only [Array.getD_eq_getD_getElem?,hl,Option.getD_some] at h1
        cases hq : listed[i] <;> simp [hq] at h1 ⊢
      · rw [hoi] at h2
        simp only [Option.map_some,Option.getD_some,Array.all_eq_true_iff_forall_mem] at h2
        have := h2 e he
        rw [hb] at this
        simp only [Bool.not_true,Bool.false_or,Array.getD_eq_getD_getElem?] at this
        cases hq : listed[e.on]? with
        | none => rw [hq] at this; cases this
        | some b => rw [hq] at this; simp at this; rw [this]
    · rintro ⟨hi,h1,h2⟩
      refine ⟨hi,by simp [Array.getD_eq_getD_getElem?,h1],?_⟩
      have hoi : ops[i]? = some ops[i] := Array.getElem?_eq_getElem hi
      rw [hoi]
      simp only [Option.map_some,Option.getD_some,Array.all_eq_true_iff_forall_mem]
      intro e he
      cases hb : Region.binds .any e with
      | false => rfl
      | true => simp [Array.getD_eq_getD_getElem?,h2 _ hoi e he hb]
  intro fuel
  induction fuel with
  | zero =>
    intro l listed G w st a H hrun hs hsz hm hl hcl hfuel hQ
    have hl0 : l = [] := List.eq_nil_of_length_eq_zero (by omega)
    subst hl0
    simp only [RunF] at hrun
    subst hrun
    refine ⟨?_,hQ G w a H (Frm.refl G w) rfl⟩
    cases hr : Region.ready .any ops listed with
    | nil => rfl
    | cons i r =>
      have hi : i ∈ Region.ready .any ops listed := by rw [hr]; simp
      obtain ⟨h1,h2,_⟩ := (ready_iff listed i hsz).1 hi
      exact absurd ((hm i h1).1 h2) (by simp)
  | succ fuel ih =>
    intro l listed G w st a H hrun hs hsz hm hl hcl hfuel hQ
    refine ⟨fun h0 => ?_,fun i hi => ?_⟩
    · cases l with
      | nil =>
        simp only [RunF] at hrun
        subst hrun
        exact hQ G w a H (Frm.refl G w) rfl
      | cons k l =>
        exfalso
        have hk : k ∈ Region.ready .any ops listed := by
          have hks : k < ops.size := hl k (by simp)
          refine (ready_iff listed k hsz).2 ⟨hks,(hm k hks).2 (by simp),fun oi hoi e he hb => ?_⟩
          have hlt := hup k oi hoi e he hb
          have hle : e.on < listed.size := by omega
          have hg : listed[e.on]? = some listed[e.on] := Array.getElem?_eq_getElem hle
          cases hq : listed[e.on] with
          | true => rw [hg,hq]
          | false =>
            rw [hq] at hg
            have hmem := (hm e.on (by omega)).1 hg
            rcases List.mem_cons.1 hmem with h1 | h1
            · omega
            · have := (List.pairwise_cons.1 hs).1 _ h1
              omega
        rw [h0] at hk
        cases hk
    · obtain ⟨hi1,hi2,hi3⟩ := (ready_iff listed i hsz).1 hi
      have hmem := (hm i hi1).1 hi2
      obtain ⟨l1,l2,rfl⟩ := List.append_of_mem hmem
      have hoi : ops[i]? = some ops[i] := Array.getElem?_eq_getElem hi1
      have hS : ∀ k,waits (depM ops) i k = true → listed[k]? = some true := dep_closed (S := fun k => listed[k]? = some true) hcl i _ hoi (hi3 _ hoi)
      obtain ⟨st',q1,q2⟩ := runF_front hoi l1 (fun k hk => by
        have hkl : k ∈ l1 ++ i :: l2 := by simp [hk]
        have hks := hl k hkl
        have hok : ops[k]? = some ops[k] := Array.getElem?_eq_getElem hks
        have hki : k < i := (List.pairwise_append.1 hs).2.2 k hk i (by simp)
        rcases hpair k i _ _ hki hok hoi with h1 | h1
        · have := hS k h1
          rw [(hm k hks).2 hkl] at this
          cases this
        · exact ⟨_,hok,h1⟩) hrun
      have hstep : step cx ops base i st = some st' := by rw [stepF_step,q1]; rfl
      refine step_ok hcx H hstep fun G' w' a' S F' ee => ?_
      have hnd : ∀ j,j ∈ l1 ++ l2 ↔ j ∈ l1 ++ i :: l2 ∧ j ≠ i := fun j => by
        obtain ⟨p1,p2,p3⟩ := List.pairwise_append.1 hs
        constructor
        · intro hj
          rcases List.mem_append.1 hj with hj | hj
          · exact ⟨by simp [hj],fun e => by have := p3 j hj i (by simp); omega⟩
          · exact ⟨by simp [hj],fun e => by have := (List.pairwise_cons.1 p2).1 j hj; omega⟩
        · rintro ⟨hj,hne⟩
          rcases List.mem_append.1 hj with hj | hj
          · simp [hj]
          · rcases List.mem_cons.1 hj with hj | hj
            · exact absurd hj hne
            · simp [hj]
      have hset : ∀ j,j < ops.size → (listed.setIfInBounds i true)[j]? = if j = i then some true else listed[j]? := fun j hj => by
        by_cases hji : j = i
        · subst hji; simp [hsz,hj]
        · rw [Array.getElem?_setIfInBounds_ne (Ne.symm hji),if_neg hji]
      refine ih (l1 ++ l2) (listed.setIfInBounds i true) S q2 ?_ (by simp [hsz]) ?_ (fun j hj => hl j ((hnd j).1 hj).1) ?_ ?_ fun G2 w2 a2 S2 F2 ee2 => hQ G2 w2 a2 S2 (F'.trans F2) (ee2.trans ee)
      · refine List.Pairwise.sublist ?_ hs
        exact List.Sublist.append_left (List.sublist_cons_self i l2) l1
      · intro j hj
        rw [hset j hj,hnd]
        split
        · rename_i e; subst e; simp
        · rename_i e; rw [hm j hj]; simp [e]
      · intro j oj hj hoj e he hb
        have hjs : j < ops.size := (Array.getElem?_eq_some_iff.1 hoj).1
        have hej : e.on < ops.size := by have := hup j oj hoj e he hb; omega
        rw [hset j hjs] at hj
        rw [hset e.on hej]
        split
        · rfl
        · split at hj
          · rename_i e'; subst e'
            rw [hoi] at hoj
            cases hoj
            exact hi3 _ hoi e he hb
          · exact hcl j oj hj hoj e he hb
      · simp at hfuel ⊢; omega
theorem runL_runF {F : Nat → FP} : ∀ (l : List Nat) {st fin : St} {fps : List FP},runL cx ops base l st = some (fin,fps) → (∀ (j i : Nat),l[j]? = some i → fps[j]? = some (F i)) → RunF cx ops base F l st fin
  | [],st,fin,fps,h,_ => by simp only [runL,Option.some.injEq,Prod.mk.injEq] at h; exact h.1
  | i :: l,st,fin,fps,h,hF => by
    simp only [runL] at h
    cases hs : stepF cx ops base i st with
    | none => rw [hs] at h; cases h
    | some r =>
      obtain ⟨st',f⟩ := r
      rw [hs] at h
      simp only [] at h
      cases hr : runL cx ops base l st' with
      | none => rw [hr] at h; cases h
      | some q =>
        rw [hr] at h
        simp only [Option.map_some,Option.some.injEq,Prod.mk.injEq] at h
        obtain ⟨rfl,rfl⟩ := h
        have h0 := hF 0 i (by simp)
        simp only [List.getElem?_cons_zero,Option.some.injEq] at h0
        refine ⟨st',by rw [hs,h0],runL_runF l hr fun j k hk => ?_⟩
        have := hF (j + 1) k (by simpa using hk)
        simpa using this
theorem runL_length : ∀ (l : List Nat) {st fin : St} {fps : List FP},runL cx ops base l st = some (fin,fps) → fps.length = l.length
  | [],st,fin,fps,h => by simp only [runL,Option.some.injEq,Prod.mk.injEq] at h; rw [← h.2]; rfl
  | i :: l,st,fin,fps,h => by
    simp only [runL] at h
    split at h
    · cases h
    · rename_i st' f hs
      cases hr : runL cx ops base l st' with
      | none => rw [hr] at h; cases h
      | some q =>
        rw [hr] at h
        simp only [Option.map_some,Option.some.injEq,Prod.mk.injEq] at h
        rw [← h.2]
        simp [runL_length l hr]
theorem region_draw_ok (hcx : CxOK cx) {r : Option Nat} (hm : cx.P.follows .mixedOrders = true) (H : Sim cx G w st a) {id : Nat} (hst : regStatic ops = true) {st' : St} (h : sregionD cx ops st = some st') {Q : Exit → Act → World → Prop}
    (hQ : ∀ G' w' a',Sim cx G' w' st' a' → Frm G w G' w' → a'.defers = a.defers → Q .normal a' w') : (Code.region id ops true).wpIn (wF r) 0 cx.P Q a w := by
  unfold sregionD at h
  split at h
  · rename_i st1 fps hr
    split at h
    · rename_i hc
      cases h
      refine wpIn_region_any hm ?_
      have hlen : fps.length = ops.size := by rw [runL_length _ hr]; simp
      obtain ⟨H1,F1⟩ := (H.reserve (cnt ops ops.size)).drew
      unfold regStatic at hst
      simp only [Bool.and_eq_true,List.all_eq_true] at hst
      have hz : ∀ i oi,ops[i]? = some oi → (oi,i) ∈ ops.toList.zipIdx := fun i oi hoi => by
        rw [List.mem_zipIdx_iff_getElem?]; simpa using hoi
      refine any_ok (F := fun i => (fps[i]?).getD (0,0)) hcx (fun i oi hoi e he hb => ?_) (fun k i ok oi hki hok hoi => ?_) ops.size (List.range ops.size) (Array.replicate ops.size false) H1
        (runL_runF _ hr fun j i hj => ?_) ?_ (by simp) ?_ (fun i hi => by simpa using hi) ?_ (by simp) fun G2 w2 a2 S2 F2 ee => hQ G2 w2 a2 S2 (F1.trans F2) ee
      · have := hst.1 _ (hz i oi hoi) e (by simpa using he)
        rw [hb] at this
        simpa using this
      · have h1 := hst.2 _ (hz i oi hoi) _ (hz k ok hok)
        simp only [Bool.or_eq_true,Bool.not_eq_true',decide_eq_false_iff_not] at h1
        rcases h1 with (h1 | h1) | h1
        · exact absurd hki h1
        · exact .inl h1
        · have hks : k < ops.size := (Array.getElem?_eq_some_iff.1 hok).1
          have his : i < ops.size := (Array.getElem?_eq_some_iff.1 hoi).1
          have e1 : fps[k]? = some fps[k] := List.getElem?_eq_getElem (by omega)
          have e2 : fps[i]? = some fps[i] := List.getElem?_eq_getElem (by omega)
          unfold confsOK at hc
          simp only [List.all_eq_true,Bool.or_eq_true] at hc
          rcases hc (fps[i],i) (List.mem_zipIdx_iff_getElem?.2 e2) with h2 | h2
          · refine .inr ⟨h1,?_⟩
            rw [e1,e2]
            simp only [Option.getD_some,noConf]
            simp at h2
            simp [h2]
          · have h3 := h2 (fps[k],k) (List.mem_zipIdx_iff_getElem?.2 e1)
            simp only [Bool.not_eq_true',decide_eq_false_iff_not] at h3
            rcases h3 with ((h3 | h3) | h3) | h3
            · exact absurd hki h3
            · refine .inr ⟨h1,?_⟩
              rw [e1,e2]
              simp only [Option.getD_some,noConf]
              simp at h3
              simp [h3]
            · exact .inl h3
            · refine .inr ⟨h1,?_⟩
              rw [e1,e2]
              exact h3
      · have hji : j = i := by
          rw [List.getElem?_range] at hj
          · simpa using hj
          · have := (List.getElem?_eq_some_iff.1 hj).1
            simpa using this
        subst hji
        have hjs : j < ops.size := by
          have := (List.getElem?_eq_some_iff.1 hj).1
          simpa using this
        rw [List.getElem?_eq_getElem (by omega)]
        rfl
      · exact List.pairwise_lt_range
      · intro i hi
        simp [hi]
      · intro j oj hj
        rw [Array.getElem?_replicate] at hj
        split at hj <;> cases hj
    · cases h
  · cases h
end
end Go.Sx
namespace Go.Sx
open Go.RowKit
theorem wpIn_loop_ghost {F : Fence} {k : Nat} {P : Program} {Q : Exit → Act → World → Prop} {a : Act} {w : World} {c : Code} (I : Nat → Act → World → Prop) (n₀ : Nat) (h₀ : I n₀ a w)
    (round : ∀ n a w,I n a w → c.wpIn F k P (Exit.then (fun a' w' => ∃ n',n' < n ∧ I n' a' w') Q) a w) : (Code.loop c).wpIn F k P Q a w := by
  refine wpIn_loop (fun a w => ∃ n,I n a w) (fun a w => leastOf (fun n => I n a w)) ⟨n₀,h₀⟩ ?_
  intro a w hI
  refine wpIn_mono (round _ a w (leastOf_spec hI).1) ?_
  intro e a' w' hq
  cases e with
  | normal =>
    obtain ⟨n',hlt,hI'⟩ := hq
    exact show (∃ n,I n a' w') ∧ leastOf (fun n => I n a' w') < leastOf (fun n => I n a w) from ⟨⟨n',hI'⟩,Nat.lt_of_le_of_lt ((leastOf_spec ⟨n',hI'⟩).2 n' hI') hlt⟩
  | exit id => exact hq
  | goto l => exact hq
  | ret => exact hq
  | panic ch => exact hq
  | outgrown => exact hq
structure FrmN (n : Nat) (G₀ : Gh) (w₀ : World) (G : Gh) (w : World) : Prop where
  os : w.os = w₀.os
  tape : w.tape = w₀.tape
  output : w.output = w₀.output
  size : w₀.heap.size ≤ w.heap.size
  K : ∀ b o u,G₀.K b o = some u → G.K b o = some u
  μ : ∀ b k,b < n → G₀.μ b = some k → G.μ b = some k
  σ : ∀ b k,b < n → G₀.σ b = some k → G.σ b = some k
  old : ∀ g,g < w₀.heap.size → G₀.T g = none → (∀ b,G₀.μ b ≠ some g) →
    w.heap[g]? = w₀.heap[g]? ∧ G.T g = none ∧ (∀ b,G.μ b ≠ some g) ∧ ∀ o,G.K g o = G₀.K g o
theorem FrmN.of {n : Nat} {A B : Gh} {a b : World} (h : Frm A a B b) : FrmN n A a B b := ⟨h.os,h.tape,h.output,h.size,h.le.K,fun b k _ x => h.le.μ b k x,fun b k _ x => h.le.σ b k x,h.old⟩
theorem FrmN.refl (n : Nat) (G : Gh) (w : World) : FrmN n G w G w := .of (Frm.refl G w)
theorem FrmN.trans {n : Nat} {A B D : Gh} {a b d : World} (h : FrmN n A a B b) (k : FrmN n B b D d) : FrmN n A a D d :=
  ⟨k.os.trans h.os,k.tape.trans h.tape,k.output.trans h.output,Nat.le_trans h.size k.size,fun b o u x => k.K b o u (h.K b o u x),fun b o hb x => k.μ b o hb (h.μ b o hb x),fun b o hb x => k.σ b o hb (h.σ b o hb x),fun g hg ht hm => by
    obtain ⟨a1,a2,a3,a4⟩ := h.old g hg ht hm
    obtain ⟨b1,b2,b3,b4⟩ := k.old g (Nat.lt_of_lt_of_le hg h.size) a2 a3
    exact ⟨b1.trans a1,b2,b3,fun o => (b4 o).trans (a4 o)⟩⟩
def DefN (w : World) (a a' : Act) : Prop := ∃ ds,a'.defers = ds ++ a.defers ∧ ∀ d ∈ ds,∀ D,d.target = .collected D → w.heap.size ≤ D
structure FrmA (n : Nat) (G : Gh) (w : World) (a : Act) (G' : Gh) (w' : World) (a' : Act) : Prop where
  fr : FrmN n G w G' w'
  df : DefN w a a'
theorem FrmA.of {n : Nat} {G G' : Gh} {w w' : World} {a a' : Act} (h : Frm G w G' w') (e : a'.defers = a.defers) : FrmA n G w a G' w' a' := ⟨.of h,[],by rw [e]; rfl,fun _ h => by cases h⟩
theorem FrmA.refl (n : Nat) (G : Gh) (w : World) (a : Act) : FrmA n G w a G w a := .of (Frm.refl G w) rfl
theorem FrmA.trans {n : Nat} {A B D : Gh} {a b d : World} {x y z : Act} (h : FrmA n A a x B b y) (k : FrmA n B b y D d z) : FrmA n A a x D d z := ⟨h.fr.trans k.fr,by
  obtain ⟨ds,e,h1⟩ := h.df
  obtain ⟨es,e2,h2⟩ := k.df
  refine ⟨es ++ ds,by rw [e2,e,List.append_assoc],fun q hq D hD => ?_⟩
  rcases List.mem_append.1 hq with hq | hq
  · exact Nat.le_trans h.fr.size (h2 q hq D hD)
  · exact h1 q hq D hD⟩
theorem FrmN.transA {n : Nat} {A B D : Gh} {b d : World} {x z : Act} (h : FrmN n A b B b) (k : FrmA n B b x D d z) : FrmA n A b x D d z := ⟨h.trans k.fr,k.df⟩
def Ex.toExit : Ex → Exit
  | .normal => .normal
  | .exit id => .exit id
  | .ret => .ret
def thenQ (K : St → Prop) (Q : Ex → St → Prop) : Ex → St → Prop
  | .normal,s => K s
  | x,s => Q x s
def blockQ (id : Nat) (Q : Ex → St → Prop) : Ex → St → Prop
  | .exit k,s => if k = id then Q .normal s else Q (.exit k) s
  | x,s => Q x s
def Tr (cx : Cx) (n : Nat) (c : Code) (st : St) (Q : Ex → St → Prop) : Prop :=
  ∀ (r : Option Nat),(cx.top = true → r = none) → ∀ (G : Gh) (w : World) (a : Act),Sim cx G w st a → ∀ (R : Exit → Act → World → Prop),
    (∀ x st' G' w' a',Q x st' → Sim cx G' w' st' a' → FrmA n G w a G' w' a' → R (Ex.toExit x) a' w') → c.wpIn (wF r) 0 cx.P R a w
section
variable {cx : Cx} {n : Nat} {st : St} {Q : Ex → St → Prop}
theorem Tr.mono {c : Code} {Q' : Ex → St → Prop} (h : Tr cx n c st Q) (hq : ∀ x s,Q x s → Q' x s) : Tr cx n c st Q' :=
  fun r hr G w a H R hR => h r hr G w a H R fun x s G' w' a' q => hR x s G' w' a' (hq x s q)
theorem Tr.skip (h : Q .normal st) : Tr cx n .skip st Q := fun r hr G w a H R hR => wpIn_skip (hR .normal st G w a h H (.refl n G w a))
theorem Tr.exit {id : Nat} (h : Q (.exit id) st) : Tr cx n (.exit id) st Q := fun r hr G w a H R hR => wpIn_exit (hR (.exit id) st G w a h H (.refl n G w a))
theorem Tr.ret (h : Q .ret st) : Tr cx n .ret st Q := fun r hr G w a H R hR => wpIn_ret (hR .ret st G w a h H (.refl n G w a))
theorem Tr.seq {a b : Code} (h : Tr cx n a st (thenQ (fun s => Tr cx n b s Q) Q)) : Tr cx n (.seq a b) st Q := fun r hr G w ac H R hR =>
  wpIn_seq (h r hr G w ac H _ fun x s G' w' a' q S F => by
    cases x with
    | normal => exact q r hr G' w' a' S R fun x2 s2 G2 w2 a2 q2 S2 F2 => hR x2 s2 G2 w2 a2 q2 S2 (F.trans F2)
    | exit id => exact hR (.exit id) s G' w' a' q S F
    | ret => exact hR .ret s G' w' a' q S F)
theorem Tr.cond {c : Operand} {x y : Code} {b : Bool} (hc : cx.ev st.env c = .val (.bool b)) (h : Tr cx n (if b then x else y) st Q) : Tr cx n (.cond c x y) st Q := fun r hr G w a H R hR => by
  have hv := H.pre.ev c
  rw [hc,rep_val] at hv
  refine wpIn_cond (t := b) hv ?_
  cases b
  · exact h r hr G w a H R hR
  · exact h r hr G w a H R hR
theorem Tr.cond_split {c : Operand} {x y : Code} {b : Bool} (hc : cx.ev st.env c = .val (.bool b)) (ht : b = true → Tr cx n x st Q) (hf : b = false → Tr cx n y st Q) : Tr cx n (.cond c x y) st Q := by
  cases b
  · exact Tr.cond hc (hf rfl)
  · exact Tr.cond hc (ht rfl)
theorem Tr.block {id : Nat} {c : Code} (h : Tr cx n c st (blockQ id Q)) : Tr cx n (.block id c) st Q := fun r hr G w a H R hR =>
  wpIn_block (h r hr G w a H _ fun x s G' w' a' q S F => by
    cases x with
    | normal => exact hR .normal s G' w' a' q S F
    | ret => exact hR .ret s G' w' a' q S F
    | exit k =>
      simp only [Ex.toExit,Exit.inBlock,blockQ] at q ⊢
      split at q
      · rename_i e; rw [if_pos e]; exact hR .normal s G' w' a' q S F
      · rename_i e; rw [if_neg e]; exact hR (.exit k) s G' w' a' q S F)
theorem Tr.loop {c : Code} (Inv : Nat → St → Prop) (m : Nat) (h0 : Inv m st) (h : ∀ m s,Inv m s → Tr cx n c s (thenQ (fun s' => ∃ k,k < m ∧ Inv k s') Q)) : Tr cx n (.loop c) st Q := fun r hr G w a H R hR => by
  refine wpIn_loop_ghost (fun m a' w' => ∃ s G',Inv m s ∧ Sim cx G' w' s a' ∧ FrmA n G w a G' w' a') m ⟨st,G,h0,H,.refl n G w a⟩ ?_
  rintro m a' w' ⟨s,G',hi,S,F⟩
  refine h m s hi r hr G' w' a' S _ fun x s2 G2 w2 a2 q S2 F2 => ?_
  cases x with
  | normal =>
    obtain ⟨k,hk,hik⟩ := q
    exact ⟨k,hk,s2,G2,hik,S2,F.trans F2⟩
  | exit id => exact hR (.exit id) s2 G2 w2 a2 q S2 (F.trans F2)
  | ret => exact hR .ret s2 G2 w2 a2 q S2 (F.trans F2)
theorem Tr.region (hcx : CxOK cx) {id : Nat} {ops : Array Oper} {st' : St} (h : sregion cx ops st = some st') (hQ : Q .normal st') : Tr cx n (.region id ops false) st Q := fun r hr _ _ _ H _ hR =>
  region_ok hcx H h fun G' w' a' S F e => hR .normal st' G' w' a' hQ S (.of F e)
theorem Tr.regionD (hcx : CxOK cx) (hm : cx.P.follows .mixedOrders = true) {id : Nat} {ops : Array Oper} {st' : St} (hs : regStatic ops = true) (h : sregionD cx ops st = some st') (hQ : Q .normal st') :
    Tr cx n (.region id ops true) st Q := fun r hr _ _ _ H _ hR =>
  region_draw_ok hcx hm H hs h fun G' w' a' S F e => hR .normal st' G' w' a' hQ S (.of F e)
def CLe (c c' : C) : Prop := (∀ G v,Rep G c v → Rep G c' v) ∧ ∀ s n xs,c' = .sl (.own s) n xs → c = c' ∨ ∀ G v,Rep G c v → ∃ a,v = .slice a n n
theorem CLe.refl (c : C) : CLe c c := ⟨fun _ _ h => h,fun _ _ _ _ => .inl rfl⟩
theorem CLe.top (c : C) : CLe c .top := ⟨fun _ _ _ => by simp [Rep],fun _ _ _ e => by cases e⟩
theorem CLe.nil (r : Rt) : CLe (.val (.slice none 0 0)) (.sl r 0 []) :=
  ⟨fun G v h => by rw [rep_val] at h; simp only [Rep]; exact ⟨none,0,h,Nat.le_refl _,Nat.zero_le _,fun _ => rfl,by simp⟩,fun s n xs e => by cases e; exact .inr fun G v h => ⟨none,rep_val.1 h⟩⟩
theorem CLe.full (r : Rt) (n : Nat) (xs : List C) : CLe (.sl .full n xs) (.sl r n xs) :=
  ⟨fun G v h => by simp only [Rep] at h ⊢; obtain ⟨a,cap,h1,h2,h3,h4,h5⟩ := h; exact ⟨a,cap,h1,h2,h3,fun _ => h4 trivial,h5⟩,fun s n' xs' e => by
    cases e
    exact .inr fun G v h => by
      simp only [Rep] at h
      obtain ⟨a,cap,h1,_,_,h4,_⟩ := h
      exact ⟨a,by rw [h1,h4 trivial]⟩⟩
theorem CLe.noR (c : C) : CLe c c.noR := ⟨fun _ _ h => h.noR,fun _ _ _ e => (noR_own e).elim⟩
theorem Tr.weaken {c : Code} {env' : Nat → C} (h : ∀ t,CLe (st.env t) (env' t)) (k : Tr cx n c ⟨env',st.h⟩ Q) : Tr cx n c st Q := fun r hr G w a H R hR =>
  k r hr G w a ⟨H.defers,H.size,H.pre.ok,⟨fun t => (h t).1 G _ (H.pre.env.1 t),fun t s m xs e => by
    rcases (h t).2 s m xs e with e' | e'
    · exact H.pre.env.2 t s m xs (e'.trans e)
    · obtain ⟨ad,hv⟩ := e' G _ (H.pre.env.1 t)
      rw [hv]; exact .inl ⟨ad,rfl⟩⟩,H.pre.glob⟩ R hR
theorem OwnRow.cut {G : Gh} {w : World} {p : Place} {v : Value} {s m : Nat} (k : Nat) (O : OwnRow G w p v s m) : OwnRow (cutμ G k) w p v s m := by
  rcases O with O | ⟨g,cap,cur,e,a1,a2,a3,a4,a5,a6⟩
  · exact .inl O
  · refine .inr ⟨g,cap,cur,e,a1,a2,a3,a4,a5,fun b hb => ?_⟩
    simp only [cutμ] at hb
    split at hb
    · exact a6 b hb
    · cases hb
theorem Hp.at_take {h : Hp} {k b : Nat} : Hp.at (h.take k) b = if b < k then h.at b else none := by
  unfold Hp.at
  rw [List.getElem?_take]
  split <;> rfl
theorem Hp.mp_take {h : Hp} {k b : Nat} : Hp.mp (h.take k) b = if b < k then h.mp b else none := by
  unfold Hp.mp
  rw [List.getElem?_take]
  split <;> rfl
theorem noRef_mrep {G : Gh} {k : Nat} : ∀ (l : List C) (es : List MapEntry),noRefs k l = true → MRep G l es → MRep (cutμ G k) l es
  | [],_,_,r => by simpa [MRep] using r
  | [_],_,_,r => by simp [MRep] at r
  | c :: d :: l,es,hn,r => by
    simp only [MRep] at r ⊢
    simp only [noRefs,Bool.and_eq_true] at hn
    obtain ⟨e,es',h1,h2,h3,h4⟩ := r
    exact ⟨e,es',h1,noRef_rep c _ hn.1 h2,noRef_rep d _ hn.2.1 h3,noRef_mrep l es' hn.2.2 h4⟩
theorem mpL_noRefs {k : Nat} {o : Option (List C)} {l : List C} (h : mpL o = some l) (hn : ∀ cells,o = some cells → noRefs k cells = true) : noRefs k l = true := by
  unfold mpL at h
  split at h
  · cases h
    have := hn _ rfl
    simp only [noRefs,noRef,Bool.and_eq_true] at this
    exact this.1.2
  · cases h
theorem WorldOK.cut {G : Gh} {h : Hp} {w : World} (H : WorldOK G h w) (k : Nat) (hb : ∀ (b : Nat) cells,b < k → h[b]? = some (some cells) → noRefs k cells = true) : WorldOK (cutμ G k) (h.take k) w := by
  refine ⟨H.known,fun b cells hc => ?_,fun b blk hm => ?_,fun b b' c c' blk ha ha' h1 h2 => ?_,fun b blk hm => ?_,H.tlt,fun b cells off s m xs blk v hc hx hm hv => ?_,fun b z hz => ?_,fun b l hb' => ?_,fun b b' l l' blk x x' y y' => ?_⟩
  · rw [Hp.at_take] at hc
    split at hc
    · rename_i hbk
      rcases H.box b cells hc with ⟨hE,hE2⟩ | ⟨blk,cs,e,q1,q2,q0,q3,q4⟩
      · exact .inl ⟨hE,by simp only [cutμ]; rw [if_pos hbk]; exact hE2⟩
      · exact .inr ⟨blk,cs,e,by simp only [cutμ]; rw [if_pos hbk]; exact q1,q2,q0,noRef_repL cells _ (hb b cells hbk (Hp.at_some hc)) q3,q4⟩
    · cases hc
  · simp only [cutμ] at hm
    split at hm
    · rename_i hbk
      obtain ⟨⟨c,hc⟩,hl⟩ := H.dom b blk hm
      exact ⟨⟨c,by rw [List.getElem?_take,if_pos hbk]; exact hc⟩,hl⟩
    · cases hm
  · simp only [cutμ] at h1 h2
    rw [Hp.at_take] at ha ha'
    split at h1
    · rename_i hb1
      split at h2
      · rename_i hb2
        rw [if_pos hb1] at ha
        rw [if_pos hb2] at ha'
        exact H.inj b b' c c' blk ha ha' h1 h2
      · cases h2
    · cases h1
  · simp only [cutμ] at hm
    split at hm
    · exact H.sep b blk hm
    · cases hm
  · rw [Hp.at_take] at hc
    simp only [cutμ] at hm
    split at hc
    · rename_i hbk
      rw [if_pos hbk] at hm
      exact (H.own b cells off s m xs blk v hc hx hm hv).cut k
    · cases hc
  · simp only [cutμ] at hz ⊢
    split at hz
    · rename_i hbk
      obtain ⟨blk,cs,e,fr,q1,q2,q3⟩ := H.siz b z hz
      exact ⟨blk,cs,e,fr,by rw [if_pos hbk]; exact q1,q2,q3⟩
    · cases hz
  · rw [Hp.mp_take] at hb'
    split at hb'
    · rename_i hbk
      obtain ⟨blk,es,clk,q1,q2,q3⟩ := H.mpo b l hb'
      refine ⟨blk,es,clk,by simp only [cutμ]; rw [if_pos hbk]; exact q1,q2,noRef_mrep l _ ?_ q3⟩
      unfold Hp.mp at hb'
      cases hq : h[b]? with
      | none => rw [hq] at hb'; cases hb'
      | some o =>
        rw [hq] at hb'
        exact mpL_noRefs (o := o) hb' fun cells hc => hb b cells hbk (by rw [hq,hc])
    · cases hb'
  · rw [Hp.mp_take] at x x'
    simp only [cutμ] at y y'
    split at x
    · rename_i n1
      split at x'
      · rename_i n2
        rw [if_pos n1] at y
        rw [if_pos n2] at y'
        exact H.mpi b b' l l' blk x x' y y'
      · cases x'
    · cases x
theorem frmN_cut {G : Gh} {w : World} {k : Nat} (hk : n ≤ k) : FrmN n G w (cutμ G k) w :=
  ⟨rfl,rfl,rfl,Nat.le_refl _,fun _ _ _ x => x,fun b o hb x => by simp only [cutμ]; rw [if_pos (by omega)]; exact x,fun b o hb x => by simp only [cutμ]; rw [if_pos (by omega)]; exact x,fun g _ ht hm => ⟨rfl,ht,(fun b hb => by
    simp only [cutμ] at hb
    split at hb
    · exact hm b hb
    · cases hb),fun _ => rfl⟩⟩
end
end Go.Sx
namespace Go.Sx
open Go.RowKit
def loopN (body : St → Option (Ex × St)) : Nat → St → Option (Ex × St)
  | 0,_ => none
  | n + 1,st => match body st with
    | some (.normal,st') => loopN body n st'
    | r => r
def sexec (cx : Cx) (n : Nat) : Code → St → Option (Ex × St)
  | .skip,st => some (.normal,st)
  | .label _,st => some (.normal,st)
  | .region _ ops draw,st => if draw then (if regStatic ops = true then (sregionD cx ops st).map fun s => (.normal,s) else none) else (sregion cx ops st).map fun s => (.normal,s)
  | .seq a b,st => match sexec cx n a st with
    | some (.normal,st') => sexec cx n b st'
    | r => r
  | .cond c a b,st => match cx.ev st.env c with
    | .val (.bool true) => sexec cx n a st
    | .val (.bool false) => sexec cx n b st
    | _ => none
  | .block id c,st => match sexec cx n c st with
    | some (.exit k,st') => if k = id then some (.normal,st') else some (.exit k,st')
    | r => r
  | .scope c,st => sexec cx n c st
  | .loop c,st => loopN (sexec cx n c) n st
  | .exit id,st => some (.exit id,st)
  | .ret,st => some (.ret,st)
  | _,_ => none
section
variable {cx : Cx} {n : Nat} {st : St} {Q : Ex → St → Prop} {G : Gh} {w : World} {a : Act}
theorem resC_ok (H : Sim cx G w st a) {r : ResultVar} {c : C} (h : resC cx st r = some c) :
    ∃ v,(match r with | .tmp t => pure (a.tmps.getD t undef) | .cell p t => do loadVar t (← asAddr (a.tmps.getD p undef)) : Sem Value).run cx.P w = .ok v w ∧ Rep G c v ∧
      (∀ s m xs,c = .sl (.own s) m xs → ∃ t,r = .tmp t ∧ OwnRow G w (0,t,0) v s m) := by
  unfold resC at h
  cases r with
  | tmp t =>
    simp only [Option.some.injEq] at h
    subst h
    exact ⟨a.tmps.getD t undef,rfl,H.pre.env.1 t,fun s m xs e => ⟨t,rfl,H.pre.env.2 t s m xs e⟩⟩
  | cell p t =>
    simp only [] at h
    split at h
    · rename_i d b off hd he
      cases hb : st.h.at b with
      | none => rw [hb] at h; cases h
      | some cells =>
        rw [hb] at h
        simp only [Option.bind_some] at h
        have hr := H.pre.env.1 p
        rw [he] at hr
        simp only [Rep] at hr
        obtain ⟨blk,hμ,hv⟩ := hr
        obtain ⟨cs,e,q1,q2,q3,q4,q5,q6⟩ := box_cells H.pre.ok hb hμ
        obtain ⟨v,hv1,hv2,hv3⟩ := getAt_load (P := cx.P) (w := w) (blk := blk) (o0 := 0) hd q2 (fun u hu => q3 u (List.mem_of_mem_take hu)) (fun j u hu => by rw [Nat.zero_add]; exact q4 j u hu) h
        rw [Nat.zero_add] at hv1
        refine ⟨v,?_,hv2,fun s m xs e => by rw [e] at hv3; exact hv3.elim⟩
        have hv' : a.tmps.getD p undef = .pointer (some ⟨blk,off,none⟩) := hv
        simp only [Sem.run_bind,hv',asAddr,Sem.run_pure,Result.andThen_ok]
        simpa [Instr.loadAt,Instr.sureAddr] using hv1
    · cases h
theorem resL_ok (H : Sim cx G w st a) : ∀ (rs : List ResultVar) {cs : List C},rs.mapM (resC cx st) = some cs →
    ∃ vs : List Value,(rs.mapM (fun r => (match r with | .tmp t => pure (a.tmps.getD t undef) | .cell p t => do loadVar t (← asAddr (a.tmps.getD p undef)) : Sem Value))).run cx.P w = .ok vs w ∧ RepL G cs vs
  | [],cs,h => by
    simp at h; subst h; exact ⟨[],by simp,by simp [RepL]⟩
  | r :: rs,cs,h => by
    simp only [List.mapM_cons,Option.bind_eq_bind,Option.pure_def] at h
    cases hr : resC cx st r with
    | none => simp [hr] at h
    | some c =>
      cases hrs : rs.mapM (resC cx st) with
      | none => simp [hr,hrs] at h
      | some cs' =>
        simp [hr,hrs] at h
        subst h
        obtain ⟨v,h1,h2,_⟩ := resC_ok H hr
        obtain ⟨vs,h3,h4⟩ := resL_ok H rs hrs
        refine ⟨v :: vs,?_,by simp only [RepL]; exact ⟨v,vs,rfl,h2,h4⟩⟩
        simp only [List.mapM_cons,Sem.run_bind,h1,Result.andThen_ok,h3,Sem.run_pure]
theorem results_ok (H : Sim cx G w st a) {fn : Func} {c : C} (h : results cx fn st = some c) :
    ∃ v G',(Go.results fn a.tmps).run cx.P w = .ok v w ∧ Rep G' c v ∧ (∀ s m xs,c = .sl (.own s) m xs → OwnRow G' w (2,0,0) v s m) ∧ WorldOK G' st.h w ∧ FrmN n G w G' w ∧ (∀ c' v',Rep G c' v' → Rep G' c' v') ∧ G'.μ = G.μ := by
  unfold results at h
  unfold Go.results
  have hl : (fn.results.mapM (fun r => (match r with | .tmp t => pure (a.tmps.getD t undef) | .cell p t => do loadVar t (← asAddr (a.tmps.getD p undef)) : Sem Value))).run cx.P w =
      ((fn.results.toList.mapM (fun r => (match r with | .tmp t => pure (a.tmps.getD t undef) | .cell p t => do loadVar t (← asAddr (a.tmps.getD p undef)) : Sem Value))).run cx.P w).andThen fun vs w' => .ok vs.toArray w' := by
    rw [Array.mapM_eq_mapM_toList,Sem.run_map]
  split at h
  · rename_i r hrs
    obtain ⟨v,h1,h2,h3⟩ := resC_ok H h
    have hrun : (fn.results.mapM (fun r => (match r with | .tmp t => pure (a.tmps.getD t undef) | .cell p t => do loadVar t (← asAddr (a.tmps.getD p undef)) : Sem Value))).run cx.P w = .ok #[v] w →
        ((do let vs ← fn.results.mapM (fun r => (match r with | .tmp t => pure (a.tmps.getD t undef) | .cell p t => do loadVar t (← asAddr (a.tmps.getD p undef)) : Sem Value)); pure (if h : vs.size = 1 then vs[0] else .tuple vs)) : Sem Value).run cx.P w = .ok v w := fun hq => by
      simp only [Sem.run_bind,hq,Result.andThen_ok,Sem.run_pure]
      rfl
    have hone := hrun (by rw [hl,hrs]; simp only [List.mapM_cons,List.mapM_nil,Sem.run_bind,h1,Result.andThen_ok,Sem.run_pure])
    by_cases hno : c.noOwn
    · exact ⟨v,G,hone,h2,fun s m xs e => by rw [e] at hno; exact hno.elim,H.pre.ok,FrmN.refl n G w,fun _ _ x => x,rfl⟩
    · obtain ⟨s,m,xs,hs⟩ : ∃ s m xs,c = .sl (.own s) m xs := by
        cases c with
        | sl r m xs => cases r with
          | own s => exact ⟨_,_,_,rfl⟩
          | no => exact absurd trivial hno
          | full => exact absurd trivial hno
        | _ => exact absurd trivial hno
      obtain ⟨t,rfl,O⟩ := h3 s m xs hs
      rcases O with O | ⟨g,cap,cur,e,a1,a2,a3,a4,a5,a6⟩
      · exact ⟨v,G,hone,h2,fun s' m' xs' e => by rw [hs] at e; cases e; exact .inl O,H.pre.ok,FrmN.refl n G w,fun _ _ x => x,rfl⟩
      · have le : G.Le (setT G g (some (2,0,0))) := ⟨fun _ _ _ x => x,fun _ _ x => x,fun _ _ x => x⟩
        refine ⟨v,setT G g (some (2,0,0)),hone,h2.mono le,fun s' m' xs' e' => ?_,retag_ok H.pre.ok a2,.of (frm_retag a2),fun c' v' x => x.mono le,rfl⟩
        rw [hs] at e'
        cases e'
        exact .inr ⟨g,cap,cur,e,a1,by simp [setT],a3,a4,a5,a6⟩
  · rename_i rs hrs
    cases hm : fn.results.toList.mapM (resC cx st) with
    | none => rw [hm] at h; cases h
    | some cs =>
      rw [hm] at h
      simp only [Option.map_some,Option.some.injEq] at h
      subst h
      obtain ⟨vs,h1,h2⟩ := resL_ok H _ hm
      refine ⟨.tuple vs.toArray,G,?_,?_,(fun s m xs e => by cases e),H.pre.ok,FrmN.refl n G w,fun _ _ x => x,rfl⟩
      · have := hl
        rw [h1] at this
        simp only [Result.andThen_ok] at this
        have hlen : vs.length ≠ 1 := by
          intro e
          have h3 := h2.length
          have h4 : cs.length = fn.results.toList.length := by
            have key : ∀ (l : List ResultVar) (ds : List C),l.mapM (resC cx st) = some ds → ds.length = l.length := by
              intro l
              induction l with
              | nil => intro ds hd; simp at hd; subst hd; rfl
              | cons r l ih =>
                intro ds hd
                simp only [List.mapM_cons,Option.bind_eq_bind,Option.pure_def] at hd
                cases hr : resC cx st r with
                | none => simp [hr] at hd
                | some c =>
                  cases hrs : l.mapM (resC cx st) with
                  | none => simp [hr,hrs] at hd
                  | some ds' => simp [hr,hrs] at hd; subst hd; simp [ih ds' hrs]
            exact key _ _ hm
          have h5 : fn.results.toList.length = 1 := by omega
          obtain ⟨r,hr⟩ := List.length_eq_one_iff.1 h5
          exact hrs r hr
        have hrun : ((do let vs ← fn.results.mapM (fun r => (match r with | .tmp t => pure (a.tmps.getD t undef) | .cell p t => do loadVar t (← asAddr (a.tmps.getD p undef)) : Sem Value)); pure (if h : vs.size = 1 then vs[0] else .tuple vs)) : Sem Value).run cx.P w = .ok (.tuple vs.toArray) w := by
          simp only [Sem.run_bind,this,Result.andThen_ok,Sem.run_pure]
          rw [dif_neg (by simpa using hlen)]
        exact hrun
      · simp only [Rep]
        exact ⟨_,rfl,by simpa using h2.map_noR⟩
def Bk (o : Obj) : Prop := (∃ ds,o = .deferred ds) ∨ ∃ r,o = .loop r
structure Shut (m : Nat) (G : Gh) (w w2 : World) : Prop where
  os : w2.os = w.os
  tape : w2.tape = w.tape
  output : w2.output = w.output
  size : w2.heap.size = w.heap.size
  heap : ∀ g,w2.heap[g]? = w.heap[g]? ∨ (m ≤ g ∧ (∃ o,w.heap[g]? = some o ∧ Bk o) ∧ G.T g = none ∧ ∀ b,G.μ b ≠ some g)
theorem Shut.refl (m : Nat) (G : Gh) (w : World) : Shut m G w w := ⟨rfl,rfl,rfl,rfl,fun _ => .inl rfl⟩
section
variable {m : Nat} {G : Gh} {w w2 : World} (S : Shut m G w w2)
include S
theorem Shut.kept {g : Nat} {o : Obj} (h : w.heap[g]? = some o) (hd : ¬ Bk o) : w2.heap[g]? = some o := by
  rcases S.heap g with e | ⟨_,⟨o',e,hb⟩,_⟩
  · exact e.trans h
  · rw [h] at e; cases e; exact absurd hb hd
theorem Shut.mu {b g : Nat} (h : G.μ b = some g) : w2.heap[g]? = w.heap[g]? := by
  rcases S.heap g with e | ⟨_,_,_,e⟩
  · exact e
  · exact absurd h (e b)
theorem Shut.cell {p : Addr} {u : Value} (h : w.cell? p = some u) : w2.cell? p = some u := by
  unfold World.cell? at h ⊢
  cases ho : w.heap[p.block]? with
  | none => rw [ho] at h; cases h
  | some o =>
    rw [ho] at h
    rw [S.kept ho (fun e => by rcases e with ⟨ds,e⟩ | ⟨r,e⟩ <;> (rw [e] at h; cases h))]
    exact h
theorem Shut.row {p : Place} {v : Value} {s n : Nat} (O : OwnRow G w p v s n) : OwnRow G w2 p v s n := by
  rcases O with O | ⟨g,cap,cur,e,a1,a2,a3,a4⟩
  · exact .inl O
  · exact .inr ⟨g,cap,cur,e,a1,a2,S.kept a3 (fun e => by rcases e with ⟨ds,e⟩ | ⟨r,e⟩ <;> cases e),a4⟩
theorem Shut.ok {h : Hp} (W : WorldOK G h w) : WorldOK G h w2 := by
  refine ⟨fun b o u hu => S.cell (W.known b o u hu),fun b cells hb => ?_,fun b blk hb => ⟨(W.dom b blk hb).1,by rw [S.size]; exact (W.dom b blk hb).2⟩,W.inj,W.sep,fun g p hg => by rw [S.size]; exact W.tlt g p hg,fun b cells off s n xs blk v hb hc hm hv => ?_,fun b z hz => ?_,fun b l hb => ?_,W.mpi⟩
  · rcases W.box b cells hb with q | ⟨blk,cs,e,h1,h2,h3⟩
    · exact .inl q
    · exact .inr ⟨blk,cs,e,h1,by rw [S.mu h1]; exact h2,h3⟩
  · refine S.row (W.own b cells off s n xs blk v hb hc hm ?_)
    unfold World.cell? at hv ⊢
    rw [S.mu hm] at hv
    exact hv
  · obtain ⟨blk,cs,e,fr,h1,h2,h3⟩ := W.siz b z hz
    exact ⟨blk,cs,e,fr,h1,by rw [S.mu h1]; exact h2,h3⟩
  · obtain ⟨blk,es,clk,h1,h2,h3⟩ := W.mpo b l hb
    exact ⟨blk,es,clk,h1,by rw [S.mu h1]; exact h2,h3⟩
theorem Shut.sim {st : St} {a : Act} (H : Sim cx G w st a) : Sim cx G w2 st { a with defers := [] } :=
  ⟨Mks.nil,H.size,S.ok H.pre.ok,⟨H.pre.env.1,fun t s n xs e => S.row (H.pre.env.2 t s n xs e)⟩,H.pre.glob⟩
theorem Shut.frm {n : Nat} {G0 : Gh} {w0 : World} (hm : m = w0.heap.size) (F : FrmN n G0 w0 G w) : FrmN n G0 w0 G w2 :=
  ⟨S.os.trans F.os,S.tape.trans F.tape,S.output.trans F.output,by rw [S.size]; exact F.size,F.K,F.μ,F.σ,fun g hg ht hmu => by
    obtain ⟨a1,a2⟩ := F.old g hg ht hmu
    refine ⟨?_,a2⟩
    rcases S.heap g with e | ⟨e,_⟩
    · exact e.trans a1
    · omega⟩
end
theorem leaves_marks {P : Program} {fn : Func} {tmps : Array Value} {R : Ending → World → Prop} {m : Nat} {G : Gh} {w : World} : ∀ (ds : List Deferred) {w1 : World},Shut m G w w1 → Mks G w1 ds → (∀ d ∈ ds,∀ D,d.target = .collected D → m ≤ D) →
    (∀ w2,Shut m G w w2 → ∃ v,(Go.results fn tmps).run P w2 = .ok v w2 ∧ R (.returned v) w2) → LeavesInM Fence.wide 0 P fn tmps R ds .returning w1
  | [],w1,S,_,_,h => h w1 S
  | d :: ds,w1,S,M,hm,h => by
    obtain ⟨D,e,h1,h2,h3⟩ := M.2 d (List.mem_cons_self ..)
    have hD : m ≤ D := hm d (List.mem_cons_self ..) D (by rw [e])
    have hlt : D < w1.heap.size := (Array.getElem?_eq_some_iff.1 h1).1
    refine ⟨(fun e => by cases e),.inl ⟨D,_,by rw [e],run_takeDeferred h1,leaves_marks ds ?_ ?_ (fun d' hd' => hm d' (List.mem_cons_of_mem _ hd')) h⟩⟩
    · refine ⟨S.os,S.tape,S.output,by rw [World.putObj_size]; exact S.size,fun g => ?_⟩
      by_cases hg : g = D
      · subst hg
        refine .inr ⟨hD,?_,h2,h3⟩
        rcases S.heap g with q | ⟨_,q,_⟩
        · exact ⟨_,q.symm.trans h1,.inl ⟨_,rfl⟩⟩
        · exact q
      · rw [World.putObj_heap_other hg]; exact S.heap g
    · obtain ⟨n1,n2⟩ := List.nodup_cons.1 M.1
      refine ⟨n2,fun d' hd' => ?_⟩
      obtain ⟨D',e',k1,k2⟩ := M.2 d' (List.mem_cons_of_mem _ hd')
      refine ⟨D',e',?_,k2⟩
      rw [World.putObj_heap_other (fun q => n1 (by rw [e,← q,← e']; exact hd'))]
      exact k1
def Ends (cx : Cx) (fn : Func) (k : Nat) (c : C) (h' : Hp) : Ex → St → Prop
  | .exit _,_ => False
  | _,st' => results cx fn st' = some c ∧ ((st'.h.take k = h' ∧ noRef k c = true ∧ ∀ (b : Nat) cells,b < k → st'.h[b]? = some (some cells) → noRefs k cells = true) ∨ st'.h = h')
theorem FC.of_tr {f : Nat} {fn : Func} {code : Code} {args : List C} {h h' : Hp} {c : C} (hf : cx.P.funcs[f]? = some fn) (hn : (fn.name == "runtime.NumGoroutine") = false) (hb : fn.body = some code)
    (hlen : args.length ≤ fn.ntmps) (hT : Tr { cx with N := fn.ntmps } h.length code ⟨init args,h⟩ (Ends cx fn h.length c h')) : FC cx.P cx.gl f args h c h' := by
  refine ⟨⟨fn,hf,hn,by rw [hb]; rfl⟩,fun G w vs W hTg hgl hr => ?_⟩
  have hvl : vs.size = args.length := by rw [hr.length]; simp
  refine callsIn_wide.1 (callsIn_of_wp_marks (F := Fence.wide) (n := 0) hf hb trivial ?_)
  have hsim : Sim { cx with N := fn.ntmps } G w ⟨init args,h⟩ { tmps := vs ++ Array.replicate (fn.ntmps - vs.size) undef,defers := [] } := by
    refine ⟨Mks.nil,by simp; omega,W,⟨fun t => ?_,fun t s m xs e => (noR_own e).elim⟩,hgl⟩
    simp only [init,av,Array.getD_eq_getD_getElem?]
    refine Rep.noR ?_
    cases hq : args[t]? with
    | some x =>
      obtain ⟨v,hv,hrv⟩ := hr.get t x hq
      have hlt : t < vs.size := by
        have := (List.getElem?_eq_some_iff.1 hv).1
        simpa using this
      rw [Array.getElem?_append_left hlt]
      have hv' : vs[t]? = some v := by simpa using hv
      rw [hv']
      exact hrv
    | none =>
      have hge : vs.size ≤ t := by
        have := List.getElem?_eq_none_iff.1 hq
        omega
      rw [Array.getElem?_append_right hge]
      simp only [Option.getD_none]
      rw [rep_val]
      cases hq2 : (Array.replicate (fn.ntmps - vs.size) undef)[t - vs.size]? with
      | none => rfl
      | some u =>
        rw [Array.getElem?_replicate] at hq2
        split at hq2
        · cases hq2; rfl
        · cases hq2
  have fin : ∀ (st' : St) (G' : Gh) (w' : World) (a' : Act),(results cx fn st' = some c ∧ ((st'.h.take h.length = h' ∧ noRef h.length c = true ∧ ∀ (b : Nat) cells,b < h.length → st'.h[b]? = some (some cells) → noRefs h.length cells = true) ∨ st'.h = h')) →
      Sim { cx with N := fn.ntmps } G' w' st' a' → FrmN h.length G w G' w' →
      ∃ v,(Go.results fn a'.tmps).run cx.P w' = .ok v w' ∧ ∃ v' G',Ending.returned v = .returned v' ∧ Rep G' c v' ∧ (∀ s n xs,c = .sl (.own s) n xs → OwnRow G' w' (2,0,0) v' s n) ∧ WorldOK G' h' w' ∧ Frm G w G' w' := by
    rintro st' G' w' a' ⟨hres,hend⟩ S F
    obtain ⟨v,G2,r1,r2,r3,r4,r5,r6,r7⟩ := results_ok (cx := { cx with N := fn.ntmps }) (n := h.length) S (fn := fn) (c := c) hres
    have F2 := F.trans r5
    have full : ∀ G3,FrmN h.length G w G3 w' → Frm G w G3 w' := fun G3 F3 =>
      ⟨F3.os,F3.tape,F3.output,F3.size,⟨F3.K,fun b k hm => F3.μ b k (by
        obtain ⟨⟨cells,hc⟩,_⟩ := W.dom b k hm
        exact (List.getElem?_eq_some_iff.1 hc).1) hm,fun b z hz => F3.σ b z (by
        obtain ⟨k,_,_,_,hm,_⟩ := W.siz b z hz
        obtain ⟨⟨cells,hc⟩,_⟩ := W.dom b k hm
        exact (List.getElem?_eq_some_iff.1 hc).1) hz⟩,F3.old⟩
    refine ⟨v,r1,?_⟩
    rcases hend with ⟨rfl,hnc,hnb⟩ | rfl
    · exact ⟨v,cutμ G2 h.length,rfl,noRef_rep _ _ hnc r2,fun s m xs e => (r3 s m xs e).cut _,r4.cut _ hnb,full _ (F2.trans (frmN_cut (Nat.le_refl _)))⟩
    · exact ⟨v,G2,rfl,r2,r3,r4,full _ F2⟩
  refine hT none (fun _ => rfl) G w _ hsim _ fun x st' G' w' a' hx S F => ?_
  obtain ⟨ds,hds,hnew⟩ := F.df
  rw [List.append_nil] at hds
  have go : (results cx fn st' = some c ∧ ((st'.h.take h.length = h' ∧ noRef h.length c = true ∧ ∀ (b : Nat) cells,b < h.length → st'.h[b]? = some (some cells) → noRefs h.length cells = true) ∨ st'.h = h')) → LeavesInM Fence.wide 0 cx.P fn a'.tmps (fun e w' => ∃ v G',e = .returned v ∧ Rep G' c v ∧ (∀ s n xs,c = .sl (.own s) n xs → OwnRow G' w' (2,0,0) v s n) ∧ WorldOK G' h' w' ∧ Frm G w G' w') a'.defers .returning w' := fun hx =>
    leaves_marks (m := w.heap.size) (G := G') (w := w') a'.defers (Shut.refl _ _ _) S.defers (by rw [hds]; exact hnew) fun w2 T => fin st' G' w2 { a' with defers := [] } hx (T.sim S) (T.frm rfl F.fr)
  cases x with
  | exit k => exact hx.elim
  | normal => exact go hx
  | ret => exact go hx
end
end Go.Sx
namespace Go.Sx
open Go.RowKit
theorem isApp_iff (ops : Array Oper) (d : Option Nat) : isApp ops d = (match d with | some t => (ops.toList.filterMap appOf).contains t | none => false) := by
  cases d <;> rfl
def splanA (cx : Cx) (apps : List Nat) (o : Oper) (env : Nat → C) : Option Plan :=
  match o.op with
  | .move (.tmp p) => some (if ((match o.dst with | some t => apps.contains t | none => false) || (match o.dst.map (· + 1000000) with | some t => apps.contains t | none => false)) then .val (env p) (some p) else .pure (env p).noR)
  | .load t x => loadPlan cx.P (match o.dst with | some t => apps.contains t | none => false) t (cx.evn env x)
  | _ => splan cx #[] o env
theorem splanA_eq (cx : Cx) (ops : Array Oper) (o : Oper) (env : Nat → C) : splanA cx (ops.toList.filterMap appOf) o env = splan cx ops o env := by
  unfold splanA
  split
  · rename_i p ho
    unfold splan
    rw [ho]
    simp only [isMv,isApp_iff]
    rfl
  · rename_i t x ho
    unfold splan
    rw [ho]
    simp only [isApp_iff]
    rfl
  · rename_i h1 h2
    unfold splan
    simp only []
    split <;> first | rfl | skip
    · rename_i x ho
      cases x with
      | tmp p => exact absurd ho (h1 p)
      | _ => rfl
    · rename_i t x ho
      exact absurd ho (h2 t x)
def wantedA (dsts : List (Option Nat)) (g : Option (Nat × Bool)) (env : Nat → C) : Option Bool :=
  match g with
  | none => some true
  | some (j,want) => match (dsts[j]?).bind id with
    | none => some false
    | some t => match (env t).noR with
      | .val (.bool b) => some (b == want)
      | .val (.tuple _) => some false
      | _ => none
theorem wantedA_eq (ops : Array Oper) (o : Oper) (env : Nat → C) : wantedA (ops.toList.map (·.dst)) o.guard env = wantedS ops o env := by
  unfold wantedA wantedS
  cases o.guard with
  | none => rfl
  | some g =>
    obtain ⟨j,want⟩ := g
    simp only []
    have : ((ops.toList.map (·.dst))[j]?).bind id = (ops[j]?).bind (·.dst) := by
      rw [List.getElem?_map,Array.getElem?_toList]
      cases ops[j]? <;> rfl
    rw [this]
    rfl
def act1 (cx : Cx) (id : Nat) (d : Option Nat) (st : St) (K : St → Prop) (p : Option Plan) : Prop :=
  match p with
  | none => False
  | some p => match actH cx id p st.h with
    | none => False
    | some (c,k,h') => K ⟨put d c (killS k st.env),h'⟩
def runE (cx : Cx) (apps : List Nat) (dsts : List (Option Nat)) : List Oper → Nat → St → (St → Prop) → Prop
  | [],_,st,K => K st
  | o :: l,id,st,K => dstOK cx.N o.dst = true ∧ match wantedA dsts o.guard st.env with
    | none => False
    | some false => runE cx apps dsts l (if makes o then id + 1 else id) ⟨put o.dst (.val undef) st.env,st.h⟩ K
    | some true => act1 cx id o.dst st (fun s => runE cx apps dsts l (if makes o then id + 1 else id) s K) (splanA cx apps o st.env)
theorem cnt_succ (ops : Array Oper) (k : Nat) (o : Oper) (h : ops[k]? = some o) : cnt ops (k + 1) = if makes o then cnt ops k + 1 else cnt ops k := by
  unfold cnt
  have h' : ops.toList[k]? = some o := by simpa using h
  rw [List.take_add_one,h']
  simp only [Option.toList_some,List.countP_append,List.countP_singleton]
  split <;> simp
theorem runE_steps {cx : Cx} {ops : Array Oper} {base : Nat} {K : St → Prop} : ∀ (l : List Oper) (k : Nat) (st : St),ops.toList.drop k = l →
    runE cx (ops.toList.filterMap appOf) (ops.toList.map (·.dst)) l (base + cnt ops k) st K → ∃ st',steps cx ops base (List.range' k l.length) st = some st' ∧ K st'
  | [],k,st,_,h => ⟨st,rfl,h⟩
  | o :: l,k,st,hl,h => by
    have hk : ops[k]? = some o := by
      have : (ops.toList.drop k)[0]? = some o := by rw [hl]; rfl
      rw [List.getElem?_drop] at this
      simpa using this
    have hl' : ops.toList.drop (k + 1) = l := by rw [← List.drop_drop,hl]; rfl
    simp only [runE] at h
    obtain ⟨hd,h⟩ := h
    rw [wantedA_eq,splanA_eq] at h
    have hid : (if makes o then base + cnt ops k + 1 else base + cnt ops k) = base + cnt ops (k + 1) := by
      rw [cnt_succ ops k o hk]; split <;> omega
    rw [hid] at h
    simp only [List.length_cons,List.range'_succ,steps]
    have next : ∀ s,runE cx (ops.toList.filterMap appOf) (ops.toList.map (·.dst)) l (base + cnt ops (k + 1)) s K → step cx ops base k st = some s → ∃ st',(step cx ops base k st).bind (steps cx ops base (List.range' (k + 1) l.length)) = some st' ∧ K st' := fun s hs hst => by
      obtain ⟨st',h1,h2⟩ := runE_steps l (k + 1) s hl' hs
      exact ⟨st',by rw [hst]; exact h1,h2⟩
    cases hw : wantedS ops o st.env with
    | none => rw [hw] at h; exact h.elim
    | some b =>
      rw [hw] at h
      cases b with
      | false =>
        refine next _ h ?_
        unfold step
        rw [hk]
        simp only [hd,if_true,hw]
      | true =>
        simp only [act1] at h
        cases hp : splan cx ops o st.env with
        | none => rw [hp] at h; exact h.elim
        | some p =>
          rw [hp] at h
          simp only [] at h
          cases ha : actH cx (base + cnt ops k) p st.h with
          | none => rw [ha] at h; exact h.elim
          | some r =>
            rw [ha] at h
            refine next _ h ?_
            unfold step
            rw [hk]
            simp only [hd,if_true,hw,hp,act,ha,Option.map_some]
theorem Tr.regionE {cx : Cx} {n : Nat} {st : St} {Q : Ex → St → Prop} (hcx : CxOK cx) {id : Nat} {l : List Oper} (h : runE cx (l.filterMap appOf) (l.map (·.dst)) l st.h.length ⟨st.env,st.h ++ List.replicate (l.countP makes) none⟩ (Q .normal)) :
    Tr cx n (.region id l.toArray false) st Q := by
  have h' : runE cx (l.toArray.toList.filterMap appOf) (l.toArray.toList.map (·.dst)) l (st.h.length + cnt l.toArray 0) ⟨st.env,st.h ++ List.replicate (l.countP makes) none⟩ (Q .normal) := by simpa [cnt] using h
  obtain ⟨st',h1,h2⟩ := runE_steps l 0 _ (by simp) h'
  refine Tr.region hcx (st' := st') ?_ h2
  unfold sregion
  have hc : cnt l.toArray l.toArray.size = l.countP makes := by simp [cnt]
  rw [hc,List.range_eq_range']
  simpa using h1
def act1D (cx : Cx) (id : Nat) (d : Option Nat) (st : St) (K : FP → St → Prop) (p : Option Plan) : Prop :=
  match p with
  | none => False
  | some p => match actH cx id p st.h with
    | none => False
    | some (c,k,h') => K (fpOf id st.h p) ⟨put d c (killS k st.env),h'⟩
def runD (cx : Cx) (apps : List Nat) (dsts : List (Option Nat)) : List Oper → Nat → St → List FP → (List FP → St → Prop) → Prop
  | [],_,st,fs,K => K fs st
  | o :: l,id,st,fs,K => dstOK cx.N o.dst = true ∧ match wantedA dsts o.guard st.env with
    | none => False
    | some false => runD cx apps dsts l (if makes o then id + 1 else id) ⟨put o.dst (.val undef) st.env,st.h⟩ ((0,0) :: fs) K
    | some true => act1D cx id o.dst st (fun f s => runD cx apps dsts l (if makes o then id + 1 else id) s (f :: fs) K) (splanA cx apps o st.env)
theorem runD_runL {cx : Cx} {ops : Array Oper} {base : Nat} {K : List FP → St → Prop} : ∀ (l : List Oper) (k : Nat) (st : St) (fs : List FP),ops.toList.drop k = l →
    runD cx (ops.toList.filterMap appOf) (ops.toList.map (·.dst)) l (base + cnt ops k) st fs K → ∃ st' gs,runL cx ops base (List.range' k l.length) st = some (st',gs) ∧ K (gs.reverse ++ fs) st'
  | [],k,st,fs,_,h => ⟨st,[],rfl,h⟩
  | o :: l,k,st,fs,hl,h => by
    have hk : ops[k]? = some o := by
      have : (ops.toList.drop k)[0]? = some o := by rw [hl]; rfl
      rw [List.getElem?_drop] at this
      simpa using this
    have hl' : ops.toList.drop (k + 1) = l := by rw [← List.drop_drop,hl]; rfl
    simp only [runD] at h
    obtain ⟨hd,h⟩ := h
    rw [wantedA_eq,splanA_eq] at h
    have hid : (if makes o then base + cnt ops k + 1 else base + cnt ops k) = base + cnt ops (k + 1) := by
      rw [cnt_succ ops k o hk]; split <;> omega
    rw [hid] at h
    simp only [List.length_cons,List.range'_succ,runL]
    have next : ∀ s f,runD cx (ops.toList.filterMap appOf) (ops.toList.map (·.dst)) l (base + cnt ops (k + 1)) s (f :: fs) K → stepF cx ops base k st = some (s,f) →
        ∃ st' gs,(match stepF cx ops base k st with | none => none | some (st',f) => (runL cx ops base (List.range' (k + 1) l.length) st').map fun r => (r.1,f :: r.2)) = some (st',gs) ∧ K (gs.reverse ++ fs) st' := fun s f hs hst => by
      obtain ⟨st',gs,h1,h2⟩ := runD_runL l (k + 1) s (f :: fs) hl' hs
      refine ⟨st',f :: gs,by rw [hst]; simp only [h1,Option.map_some],?_⟩
      simpa using h2
    cases hw : wantedS ops o st.env with
    | none => rw [hw] at h; exact h.elim
    | some b =>
      rw [hw] at h
      cases b with
      | false =>
        refine next _ _ h ?_
        unfold stepF eff
        rw [hk]
        simp only [hd,if_true,hw,Option.map_some,killS]
      | true =>
        simp only [act1D] at h
        cases hp : splan cx ops o st.env with
        | none => rw [hp] at h; exact h.elim
        | some p =>
          rw [hp] at h
          simp only [] at h
          cases ha : actH cx (base + cnt ops k) p st.h with
          | none => rw [ha] at h; exact h.elim
          | some r =>
            rw [ha] at h
            refine next _ _ h ?_
            unfold stepF eff
            rw [hk]
            simp only [hd,if_true,hw,hp,ha,Option.map_some]
theorem Tr.regionDE {cx : Cx} {n : Nat} {st : St} {Q : Ex → St → Prop} (hcx : CxOK cx) (hm : cx.P.follows .mixedOrders = true) {id : Nat} {l : List Oper} (hs : regStatic l.toArray = true)
    (h : runD cx (l.filterMap appOf) (l.map (·.dst)) l st.h.length ⟨st.env,st.h ++ List.replicate (l.countP makes) none⟩ [] (fun fs s => confsOK l.toArray fs.reverse = true ∧ Q .normal s)) :
    Tr cx n (.region id l.toArray true) st Q := by
  have h' : runD cx (l.toArray.toList.filterMap appOf) (l.toArray.toList.map (·.dst)) l (st.h.length + cnt l.toArray 0) ⟨st.env,st.h ++ List.replicate (l.countP makes) none⟩ [] (fun fs s => confsOK l.toArray fs.reverse = true ∧ Q .normal s) := by simpa [cnt] using h
  obtain ⟨st',gs,h1,h2,h3⟩ := runD_runL l 0 _ [] (by simp) h'
  refine Tr.regionD hcx hm (st' := st') hs ?_ h3
  unfold sregionD
  have hc : cnt l.toArray l.toArray.size = l.countP makes := by simp [cnt]
  rw [hc,List.range_eq_range']
  have h1' : runL cx l.toArray st.h.length (List.range' 0 l.toArray.size) ⟨st.env,st.h ++ List.replicate (l.countP makes) none⟩ = some (st',gs) := by simpa using h1
  rw [h1']
  simp only [List.append_nil,List.reverse_reverse] at h2
  simp only [h2,if_true]
theorem FC.of {cx : Cx} {f : Nat} {fn : Func} {code : Code} {args : List C} {h h' : Hp} {c : C} (hN : cx.N = fn.ntmps) (hf : cx.P.funcs[f]? = some fn) (hn : (fn.name == "runtime.NumGoroutine") = false) (hb : fn.body = some code)
    (hlen : args.length ≤ fn.ntmps) (hT : Tr cx h.length code ⟨init args,h⟩ (Ends cx fn h.length c h')) : FC cx.P cx.gl f args h c h' := by
  refine FC.of_tr hf hn hb hlen ?_
  obtain ⟨P,N,gl,pu,hp⟩ := cx
  simp only [] at hN
  subst hN
  exact hT
theorem Tr.seqK {cx : Cx} {n : Nat} {st : St} {Q : Ex → St → Prop} {a b : Code} (h : ∀ K : St → Prop,(∀ s,Tr cx n b s Q → K s) → Tr cx n a st (thenQ K Q)) : Tr cx n (.seq a b) st Q :=
  Tr.seq (h _ fun _ x => x)
end Go.Sx
namespace Go.Sx
open Go.RowKit
def A : List (Nat × C) → Nat → C
  | [],_ => .top
  | (k,c) :: l,t => if t = k then c else A l t
def Le (env : Nat → C) : List (Nat × C) → Prop
  | [] => True
  | (k,c) :: l => CLe (env k) c ∧ Le env l
theorem Le.spec {env : Nat → C} : ∀ {l : List (Nat × C)},Le env l → ∀ t,CLe (env t) (A l t)
  | [],_,t => CLe.top _
  | (k,c) :: l,h,t => by
    unfold A
    split
    · rename_i e; subst e; exact h.1
    · exact Le.spec h.2 t
section
variable {cx : Cx} {n : Nat} {st : St} {Q : Ex → St → Prop}
theorem Tr.live {c : Code} (l : List (Nat × C)) (h : Le st.env l) (k : Tr cx n c ⟨A l,st.h⟩ Q) : Tr cx n c st Q :=
  Tr.weaken (fun t => h.spec t) k
def At {α : Type} (I : α → List (Nat × C)) (H : α → Hp) (ok : α → Prop) (s : St) : Prop := ∃ a,ok a ∧ Le s.env (I a) ∧ s.h = H a
theorem Tr.ofAt {α : Type} {I : α → List (Nat × C)} {H : α → Hp} {ok : α → Prop} {c : Code} {s : St} (hs : At I H ok s) (h : ∀ a,ok a → Tr cx n c ⟨A (I a),H a⟩ Q) : Tr cx n c s Q := by
  obtain ⟨a,h1,h2,h3⟩ := hs
  refine Tr.live _ h2 ?_
  rw [h3]
  exact h a h1
theorem Tr.seqJ {α : Type} (I : α → List (Nat × C)) (H : α → Hp) (ok : α → Prop) {x y : Code} (h1 : Tr cx n x st (thenQ (At I H ok) Q)) (h2 : ∀ a,ok a → Tr cx n y ⟨A (I a),H a⟩ Q) : Tr cx n (.seq x y) st Q :=
  Tr.seq (h1.mono fun e s q => by
    cases e with
    | normal => exact Tr.ofAt q h2
    | exit id => exact q
    | ret => exact q)
theorem Tr.loopI {α : Type} (I : α → List (Nat × C)) (H : α → Hp) (ok : α → Prop) (μ : α → Nat) {c : Code} (a : α) (h0 : ok a) (hl : Le st.env (I a)) (hh : st.h = H a)
    (hb : ∀ a,ok a → Tr cx n c ⟨A (I a),H a⟩ (thenQ (At I H fun a' => ok a' ∧ μ a' < μ a) Q)) : Tr cx n (.loop c) st Q := by
  refine Tr.loop (fun m s => ∃ a,μ a = m ∧ ok a ∧ Le s.env (I a) ∧ s.h = H a) (μ a) ⟨a,rfl,h0,hl,hh⟩ ?_
  rintro m s ⟨a,rfl,h1,h2,h3⟩
  refine Tr.live _ h2 ?_
  rw [h3]
  refine (hb a h1).mono fun e s q => ?_
  cases e with
  | normal =>
    obtain ⟨a',⟨q1,q2⟩,q3,q4⟩ := q
    exact ⟨μ a',q2,a',rfl,q1,q3,q4⟩
  | exit id => exact q
  | ret => exact q
end
theorem FC.frame {P : Program} {gl : Nat → C} {f : Nat} {args : List C} {c : C} (hf : FC P gl f args [] c []) (ha : noRefs 0 args = true) (hg : ∀ g,noRef 0 (gl g) = true) (h : Hp) : FC P gl f args h c h := by
  obtain ⟨he,hf⟩ := hf
  refine ⟨he,fun G w vs W hTg hgl hr => ?_⟩
  have le1 : (cutμ G 0).Le { K := G.K,μ := fun _ => none,T := fun _ => none } := ⟨fun _ _ _ x => x,fun b k x => by simp [cutμ] at x,fun b k x => by simp [cutμ] at x⟩
  have hn : ∀ b,Hp.at [] b = none := fun b => by simp [Hp.at]
  refine Calls.mono (hf { K := G.K,μ := fun _ => none,T := fun _ => none } w vs ⟨W.known,(fun b cells x => by rw [hn] at x; cases x),(fun b blk x => by cases x),(fun b b' c c' blk _ _ x => by cases x),(fun b blk x => by cases x),(fun g p x => by cases x),(fun b cells off s n xs blk v x => by rw [hn] at x; cases x),(fun b z x => by cases x),(fun b l x => by simp [Hp.mp] at x),(fun b b' l l' blk x => by simp [Hp.mp] at x)⟩
    (fun g p x => by cases x) (fun g => (noRef_rep _ _ (hg g) (hgl g)).mono le1) ((noRef_repL _ _ ha hr).mono le1)) ?_
  rintro e w' ⟨v,G2,rfl,rv,ro,W2,F⟩
  have hμ2 : ∀ b k,G2.μ b ≠ some k := fun b k x => by
    obtain ⟨⟨cells,hc⟩,_⟩ := W2.dom b k x
    simp at hc
  have hσ2 : ∀ b k,G2.σ b ≠ some k := fun b k x => by
    obtain ⟨blk,_,_,_,q,_⟩ := W2.siz b k x
    exact hμ2 b blk q
  have old := fun g (hg : g < w.heap.size) => F.old g hg rfl (fun b x => by cases x)
  have hμlt : ∀ b blk,G.μ b = some blk → blk < w.heap.size := fun b blk x => by
    exact (W.dom b blk x).2
  let G3 : Gh := { K := G2.K,μ := G.μ,T := fun g => if g < w.heap.size then G.T g else G2.T g,σ := G.σ }
  have le23 : G2.Le G3 := ⟨fun _ _ _ x => x,fun b k x => (hμ2 b k x).elim,fun b k x => (hσ2 b k x).elim⟩
  have le13 : G.Le G3 := ⟨fun b o u x => F.le.K b o u x,fun _ _ x => x,fun _ _ x => x⟩
  refine ⟨v,G3,rfl,rv.mono le23,fun s n xs e => ?_,⟨W2.known,fun b cells hc => ?_,fun b blk x => ⟨(W.dom b blk x).1,Nat.lt_of_lt_of_le (W.dom b blk x).2 F.size⟩,W.inj,fun b blk x => ?_,fun g p x => ?_,fun b cells off s n xs blk v hc hx hm hv => ?_,fun b z hz => ?_,fun b l hb => (by obtain ⟨blk,es,clk,q1,q2,q3⟩ := W.mpo b l hb; exact ⟨blk,es,clk,q1,(old blk (hμlt b blk q1)).1.trans q2,q3.mono le13⟩),W.mpi⟩,F.os,F.tape,F.output,F.size,le13,fun g hg ht hm => ?_⟩
  · rcases ro s n xs e with O | ⟨g,cap,cur,e,a1,a2,a3,a4,a5,a6⟩
    · exact .inl O
    · refine .inr ⟨g,cap,cur,e,a1,?_,a3,a4,a5,fun b x => ?_⟩
      · have : ¬ g < w.heap.size := fun hlt => by rw [(old g hlt).2.1] at a2; cases a2
        show (if g < w.heap.size then G.T g else G2.T g) = _
        rw [if_neg this]; exact a2
      · have hlt := hμlt b g x
        rw [(old g hlt).2.1] at a2; cases a2
  · rcases W.box b cells hc with hE | ⟨blk,cs,e,q1,q2,q0,q3,q4⟩
    · exact .inl hE
    · exact .inr ⟨blk,cs,e,q1,by rw [(old blk (hμlt b blk q1)).1]; exact q2,q0,q3.mono le13,q4⟩
  · have hlt := hμlt b blk x
    refine ⟨fun o => ((old blk hlt).2.2.2 o).trans ((W.sep b blk x).1 o),?_⟩
    show (if blk < w.heap.size then G.T blk else G2.T blk) = none
    rw [if_pos hlt]
    exact (W.sep b blk x).2
  · have x' : (if g < w.heap.size then G.T g else G2.T g) = some p := x
    split at x'
    · exact Nat.lt_of_lt_of_le (W.tlt g p x') F.size
    · exact W2.tlt g p x'
  · have hlt := hμlt b blk hm
    have hv' : w.cell? ⟨blk,off,none⟩ = some v := by
      rw [← hv]
      unfold World.cell?
      rw [(old blk hlt).1]
    rcases W.own b cells off s n xs blk v hc hx hm hv' with O | ⟨g,cap,cur,e,a1,a2,a3,a4,a5,a6⟩
    · exact .inl O
    · have hlt := W.tlt g _ a2
      refine .inr ⟨g,cap,cur,e,a1,?_,(old g hlt).1.trans a3,a4,fun o ho => ((old g hlt).2.2.2 o).trans (a5 o ho),a6⟩
      show (if g < w.heap.size then G.T g else G2.T g) = _
      rw [if_pos hlt]; exact a2
  · obtain ⟨blk,cs,e,fr,q1,q2,q3⟩ := W.siz b z hz
    exact ⟨blk,cs,e,fr,q1,(old blk (hμlt b blk q1)).1.trans q2,q3⟩
  · obtain ⟨b1,b2,b3,b4⟩ := old g hg
    refine ⟨b1,?_,hm,b4⟩
    show (if g < w.heap.size then G.T g else G2.T g) = none
    rw [if_pos hg]; exact ht
end Go.Sx
