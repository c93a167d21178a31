/-
   And what follows.
-/
import Derived.Test.YtcpdlhgkdogdjaaDoorPat
import Derived.Test.YtcpdlhgkdogdjaaDoorPau
import Derived.Test.YtcpdlhgkdogdjaaDoorPar
import Derived.Test.YtcpdlhgkdogdjaaDoorPap
set_option linter.unusedSimpArgs false
set_option linter.unusedVariables false
namespace Go.Sx
open Go.RowKit Go.Proofs
theorem fnd_rng {w : Wrk} {k : Nat} (h : k < (alW w).length) : ∃ v a j,fnd w (gt (alW w) k).1 = ((v,a,j),true) ∧ v < w.length ∧ a < (gt w v).length ∧ j < (gt (gt w v) a).2.length := by
  rw [alW_len] at h
  have hm : gt (rdW w) k ∈ rdW w := gt_mem' _ _ h
  rw [alW_gt w k h]
  unfold fnd
  cases hf : (rdW w).find? (fun r => decide (r.2.1 = (gt (rdW w) k).2.1)) with
  | none =>
    have := List.find?_eq_none.1 hf _ hm
    simp at this
  | some r =>
    have hr := List.mem_of_find?_eq_some hf
    unfold rdW at hr
    rw [List.mem_flatMap] at hr
    obtain ⟨v,hv,hr⟩ := hr
    unfold rdV at hr
    rw [List.mem_flatMap] at hr
    obtain ⟨a,ha,hr⟩ := hr
    unfold rdA at hr
    rw [List.mem_map] at hr
    obtain ⟨j,hj,rfl⟩ := hr
    exact ⟨v,a,j,rfl,List.mem_range.1 hv,List.mem_range.1 ha,List.mem_range.1 hj⟩
theorem bks_set (r : Nat → Nat) (x : C) : ∀ (l : List C) (i : Nat),bkCs r (l.set i x) = (bkCs r l).set i (bkC r x)
  | [],_ => by simp only [List.set_nil,bkCs]
  | y :: l,0 => by simp only [List.set_cons_zero,bkCs]
  | y :: l,i + 1 => by simp only [List.set_cons_succ,bkCs,bks_set r x l i]
theorem bk_fV (n v m : Nat) (w : Wrk) : bkCs (n + ·) (fV 0 v m w) = fV n v m w := by unfold fV; rw [bks_set,bks_cl]; rfl
theorem bk_fA (n a m : Nat) (V : Vol) : bkCs (n + ·) (fA 0 a m V) = fA n a m V := by unfold fA; rw [bks_set,bks_cl]; rfl
def xR3 (w : Wrk) (v a : Nat) : Hp := [some (fV 0 v (gt w v).length w),some (fA 0 a (gt (gt w v) a).2.length (gt w v)),some (cl pC (gt (gt w v) a).2)]
section
variable {gl : Nat → C} {pu : Nat → List C → Option C}
noncomputable def puS (pu : Nat → List C → Option C) : Nat → List C → Option C := fun f xs => if (f = 19 ∨ f = 21 ∨ f = 33) ∧ noRefs 0 xs = true then pu f xs else none
theorem puS_ok {M : Nat} (hcx : CxOK (cxP gl M pu)) : CxOK (cxP gl M (puS pu)) := by
  refine ⟨hcx.glo,fun f xs c hc h => ?_,(fun _ _ _ _ _ h => by cases h),hcx.km⟩
  have hc : puS pu f xs = some c := hc
  unfold puS at hc
  split at hc
  · exact hcx.pu f xs c hc h
  · cases hc
theorem noRefs_setF (k : Nat) (x : C) (hx : noRef k x = false) : ∀ (l : List C) (i : Nat),i < l.length → noRefs k (l.set i x) = false
  | y :: l,0,_ => by simp only [List.set_cons_zero,noRefs,hx,Bool.false_and]
  | y :: l,i + 1,h => by simp only [List.set_cons_succ,noRefs,noRefs_setF k x hx l i (by simpa using h),Bool.and_false]
theorem nr_xF0 {w : Wrk} {v a : Nat} (hv : v < w.length) (ha : a < (gt w v).length) (k : Nat) (xs : List C) : noRefs 0 (.agg [xF w v a k] :: xs) = false := by
  have h1 : noRefs 0 (xA (gt w v) a k) = false := noRefs_setF 0 (.gv 0 k (7,37)) rfl _ _ (by rw [cl_len (f := aC)]; omega)
  have h2 : noRefs 0 (xV w v a k) = false := noRefs_setF 0 (.sl .no (gt w v).length (xA (gt w v) a k)) h1 _ _ (by rw [cl_len (f := vC)]; omega)
  show ((noRefs 0 (xV w v a k) && true) && noRefs 0 xs) = false
  rw [h2]; rfl
theorem puS_33 {w : Wrk} {v a : Nat} (hv : v < w.length) (ha : a < (gt w v).length) (xs : List C) (k : Nat) : puS pu 33 (.agg [xF w v a k] :: xs) = none := if_neg fun e => by rw [nr_xF0 hv ha] at e; exact Bool.false_ne_true e.2
theorem puS_none (f : Nat) (h : ¬ (f = 19 ∨ f = 21 ∨ f = 33)) (xs : List C) : puS pu f xs = none := if_neg fun e => h e.1
theorem puS_hit {f : Nat} {xs : List C} (h : f = 19 ∨ f = 21 ∨ f = 33) (hn : noRefs 0 xs = true) : puS pu f xs = pu f xs := if_pos ⟨h,hn⟩
noncomputable def mk20 {M : Nat} (hcx : CxOK (cxP gl M pu)) (w : Wrk) (v a : Nat) (hw : WG w) : Mk Tryd.prog gl 20 Unit where
  args _ := [.agg [sl vC .no w]]
  r _ := .agg [.gv 0 w.length (1,46)]
  Y _ := xR3 w v a ++ [some [.gv 0 w.length (1,46)]]
  nr _ := by simp only [noRefs,noRef,noRef_sl,Bool.and_self]
  inj _ _ _ := ⟨rfl,rfl⟩
  fc _ := fc20f hcx w v a hw
theorem mk20_look {M : Nat} (hcx : CxOK (cxP gl M pu)) (w : Wrk) (v a : Nat) (hw : WG w) (hp : Nat → List C → Hp → Option (C × Hp)) : ∀ pre : Hp,OkH pre → (mk20 hcx w v a hw).tab hp 20 [.agg [sl vC .no w]] pre = some (.agg [.gv pre.length w.length (1,46)],pre ++ [some (fV pre.length v (gt w v).length w),some (fA pre.length a (gt (gt w v) a).2.length (gt w v)),some (cl pC (gt (gt w v) a).2),some [.gv pre.length w.length (1,46)]]) := fun pre h => by
  have e := (mk20 hcx w v a hw).look hp () pre h
  have e1 : shH pre.length ((mk20 hcx w v a hw).Y ()) = [some (fV pre.length v (gt w v).length w),some (fA pre.length a (gt (gt w v) a).2.length (gt w v)),some (cl pC (gt (gt w v) a).2),some [.gv pre.length w.length (1,46)]] := by
    show [some (bkCs _ (fV 0 v (gt w v).length w)),some (bkCs _ (fA 0 a (gt (gt w v) a).2.length (gt w v))),some (bkCs _ (cl pC (gt (gt w v) a).2)),some [C.gv (pre.length + 0) w.length (1,46)]] = _
    rw [bk_fV,bk_fA,bks_cl]
    rfl
  rw [e1] at e
  exact e
theorem live3 (w : Wrk) (v a : Nat) : ∀ o ∈ xR3 w v a,((liveC o).isSome || (mpL o).isSome) = true := by
  intro o ho
  simp only [xR3,List.mem_cons,List.not_mem_nil,or_false] at ho
  rcases ho with rfl | rfl | rfl
  · rw [live_fV]; rfl
  · rw [live_fA]; rfl
  · rw [live_cl]; rfl
theorem ok14 {M N : Nat} {hp : Nat → List C → Hp → Option (C × Hp)} (hcx : CxOK (cxP gl N pu)) (hc : CxOK (cxR gl N pu hp)) (w : Wrk) (v a : Nat) (hw : WG w) : CxOK (cxR gl M pu (hpS hp 14 [.agg [.gv 0 w.length (1,46)]] (xR3 w v a) (sl pC (.own 7) (alW w),xR3 w v a))) :=
  CxOK.oneS hc (fc14b hcx w v a hw) rfl (live3 w v a) rfl (row3_nr _ _ _ 3 (by decide)) (noRef_sl pC 3 (.own 7) (alW w)) (row3_nr _ _ _ 3 (by decide))
theorem ok20 {M N : Nat} {hp : Nat → List C → Hp → Option (C × Hp)} (hcx : CxOK (cxP gl N pu)) (hc : CxOK (cxR gl N pu hp)) (w : Wrk) (v a : Nat) (hw : WG w) : CxOK (cxR gl M pu ((mk20 hcx w v a hw).tab hp)) := CxOK.mk1 hc (mk20 hcx w v a hw)
theorem cxR0 {M : Nat} (hcx : CxOK (cxP gl M pu)) : CxOK (cxR gl M pu (fun _ _ _ => none)) := cxM_of hcx
theorem fc51 {M : Nat} (hcx : CxOK (cxP gl M pu))
    (h19 : ∀ (n : Int) (m : Nat),-9223372036854775808 ≤ n ∧ n ≤ 9223372036854775807 ∧ 0 < m ∧ m ≤ 9223372036854775807 → pu 19 [.val (.int .i64 n),.val (nI m)] = some (.val (nI (aroundI n m))))
    (h21 : ∀ (l : List Int) (k : Nat) (id : ID),LI l → k ≤ 900 → pu 21 [sl iC .no l,.val (nI k),.agg (iD id)] = some (.agg (pC (oneP l k id))))
    (h33 : ∀ (w : Wrk) (id : ID),WB w → pu 33 [.agg [sl vC .no w],.agg (iD id)] = some (.tup [.agg [.val (nI (fnd w id).1.1),.val (nI (fnd w id).1.2.1),.val (nI (fnd w id).1.2.2)],.val (.bool (fnd w id).2)]))
    (w : Wrk) (how y : Int) (hw : WG w) (hho : -9223372036854775808 ≤ how ∧ how ≤ 9223372036854775807) (hy0 : -9223372036854775808 ≤ y ∧ y ≤ 9223372036854775807) :
    FC Tryd.prog gl 51 [.agg [sl vC .no w],.val (.int .i64 how),.val (.int .i64 y)] [] (.agg [sl vC .no (spW w how y)]) [] := by
  have hcS := puS_ok hcx
  have n0 := fun f h xs => puS_none (pu := pu) f h xs
  have h19' : ∀ (n : Int) (m : Nat),-9223372036854775808 ≤ n ∧ n ≤ 9223372036854775807 ∧ 0 < m ∧ m ≤ 9223372036854775807 → puS pu 19 [.val (.int .i64 n),.val (nI m)] = some (.val (nI (aroundI n m))) := fun n m h => (puS_hit (.inl rfl) rfl).trans (h19 n m h)
  have h21' : ∀ (l : List Int) (k : Nat) (id : ID),LI l → k ≤ 900 → puS pu 21 [sl iC .no l,.val (nI k),.agg (iD id)] = some (.agg (pC (oneP l k id))) := fun l k id h1 h2 => (puS_hit (.inr (.inl rfl)) (by simp only [noRefs,noRef_sl,Bool.true_and]; rfl)).trans (h21 l k id h1 h2)
  have h33' : ∀ (w : Wrk) (id : ID),WB w → puS pu 33 [.agg [sl vC .no w],.agg (iD id)] = some (.tup [.agg [.val (nI (fnd w id).1.1),.val (nI (fnd w id).1.2.1),.val (nI (fnd w id).1.2.2)],.val (.bool (fnd w id).2)]) := fun w id h => (puS_hit (.inr (.inr rfl)) (by
    show (noRefs 0 [sl vC .no w] && (noRefs 0 (iD id) && true)) = true
    have e : noRefs 0 [sl vC .no w] = true := by simp only [noRefs,noRef_sl,Bool.and_self]
    rw [e]; rfl)).trans (h33 w id h)
  by_cases hA : 0 < (alW w).length ∧ aroundI how 2 = 0
  · obtain ⟨v,a,j,hf,hv,ha,hj⟩ := fnd_rng (around_lt y hA.1)
    have hx1 : ∀ o ∈ [some (cl pC (gt (gt w v) a).2)],((liveC o).isSome || (mpL o).isSome) = true := fun o ho => by
      obtain rfl := List.mem_singleton.1 ho
      rw [live_cl]; rfl
    have hna : ∀ xs : List C,noRefs 1 xs = true → noRefs 1 (.agg [xF w v a (gt (gt w v) a).2.length] :: xs) = true := fun xs h => by
      show (noRef 1 (.agg [xF w v a (gt (gt w v) a).2.length]) && noRefs 1 xs) = true
      rw [nr_xF,h]; rfl
    have k35 := CxOK.oneS (M := 120) (az := [.agg [xF w v a (gt (gt w v) a).2.length],.agg [.val (nI v),.val (nI a),.val (nI j)]]) (X := [some (cl pC (gt (gt w v) a).2)]) (r := (.tup [.agg (pC (gt (gt (gt w v) a).2 j)),.val (.bool true)],[some (cl pC (gt (gt w v) a).2)])) (cxR0 (M := M) hcS) (fc35c hcS w v a j hv ha hj hw) rfl hx1 (hna _ rfl) (row1_nr _ 1) (by
      show (noRefs 1 (pC (gt (gt (gt w v) a).2 j)) && (true && true)) = true
      rw [noRefs_f]; rfl) (row1_nr _ 1)
    have f92 := fc92c k35 w v a j (how.tdiv ((2 : Nat) : Int)) (y.tdiv ((8 : Nat) : Int)) hv ha hj hw (tdiv_rng how 2 hho) (tdiv_rng y 8 hy0) (n0 35 (by decide)) (fun suf hs => hpS_hit _ _ _ _ _ suf hs) h19'
    have k92 := CxOK.oneS (M := M) (az := [.agg [xF w v a (gt (gt w v) a).2.length],.agg [.val (nI v),.val (nI a),.val (nI j)],.val (.int .i64 (how.tdiv ((2 : Nat) : Int))),.val (.int .i64 (y.tdiv ((8 : Nat) : Int)))]) (X := [some (cl pC (gt (gt w v) a).2)]) (r := (.agg [xF w v a (gt (gt w v) a).2.length],[some (cl pC ((gt (gt w v) a).2.set j (chgP (gt (gt (gt w v) a).2 j) (how.tdiv ((2 : Nat) : Int)) (y.tdiv ((8 : Nat) : Int)))))])) (cxR0 (M := M) hcS) f92 rfl hx1 (hna _ rfl) (row1_nr _ 1) (nr_xF ..) (row1_nr _ 1)
    have k14 := ok14 (M := M) hcS k92 w v a hw
    have k20 := ok20 (M := 242) hcS k14 w v a hw
    exact fc51A k20 w how y v a hw hho hy0 j hv ha hj hA.1 hA.2 hf (n0 20 (by decide)) (n0 14 (by decide)) (puS_33 hv ha) (n0 92 (by decide)) (mk20_look hcS w _ _ hw _) (fun suf hs => (Mk.miss _ _ (by decide) _ _).trans (hpS_hit _ _ _ _ _ suf hs)) h33' (fun suf hs => (Mk.miss _ _ (by decide) _ _).trans ((hpS_miss _ _ _ _ (by decide) _ _).trans (hpS_hit _ _ _ _ _ suf hs))) h19'
  · have k14 := ok14 (M := M) hcS (cxR0 hcS) w (aroundI y w.length) (aroundI (y.tdiv ((2 : Nat) : Int)) (max (gt w (aroundI y w.length)).length 1)) hw
    have k20 := ok20 (M := 242) hcS k14 w (aroundI y w.length) (aroundI (y.tdiv ((2 : Nat) : Int)) (max (gt w (aroundI y w.length)).length 1)) hw
    exact fc51N k20 w how y _ _ hw hho hy0 rfl rfl hA (n0 20 (by decide)) (n0 14 (by decide)) (mk20_look hcS w _ _ hw _) (fun suf hs => (Mk.miss _ _ (by decide) _ _).trans (hpS_hit _ _ _ _ _ suf hs)) h19' h21'
end
end Go.Sx
namespace Go.Sx
open Go.RowKit Go.Proofs
def PZ (N : Nat) (p : Psg) : Prop := p.2.2.2.1.length ≤ N ∧ p.2.2.2.2.length ≤ N ∧ IdOk p.1
def AZ (N : Nat) (A : Art) : Prop := A.1.length ≤ N ∧ A.2.length ≤ N ∧ ∀ p,p ∈ A.2 → PZ N p
def alV (V : Vol) : List Psg := V.flatMap (·.2)
structure WZ (N : Nat) (w : Wrk) : Prop where
  n : w.length ≤ N
  al : (w.flatMap alV).length ≤ N
  ar : w.flatten.length ≤ N
  v : ∀ V,V ∈ w → V.length ≤ N ∧ ∀ A,A ∈ V → AZ N A
theorem PZ.mono {N K : Nat} (h : N ≤ K) {p : Psg} (hp : PZ N p) : PZ K p := ⟨Nat.le_trans hp.1 h,Nat.le_trans hp.2.1 h,hp.2.2⟩
theorem AZ.mono {N K : Nat} (h : N ≤ K) {A : Art} (hA : AZ N A) : AZ K A := ⟨Nat.le_trans hA.1 h,Nat.le_trans hA.2.1 h,fun p hp => (hA.2.2 p hp).mono h⟩
theorem fm_set_len {α β : Type} (f : α → List β) (x : α) : ∀ (l : List α) (i : Nat),((l.set i x).flatMap f).length ≤ (l.flatMap f).length + (f x).length
  | [],_ => by simp
  | y :: l,0 => by simp only [List.set_cons_zero,List.flatMap_cons,List.length_append]; omega
  | y :: l,i + 1 => by
    have := fm_set_len f x l i
    simp only [List.set_cons_succ,List.flatMap_cons,List.length_append]; omega
theorem fm_mem_len {α β : Type} (f : α → List β) (x : α) : ∀ (l : List α),x ∈ l → (f x).length ≤ (l.flatMap f).length
  | y :: l,h => by
    simp only [List.flatMap_cons,List.length_append]
    rcases List.mem_cons.1 h with rfl | h
    · omega
    · have := fm_mem_len f x l h; omega
theorem flat_set_len {α : Type} (l : List (List α)) (i : Nat) (x : List α) : (l.set i x).flatten.length ≤ l.flatten.length + x.length := by
  have := fm_set_len (fun y : List α => y) x l i
  simpa [List.flatMap_id'] using this
theorem WZ.set {N : Nat} {w : Wrk} (h : WZ N w) (v : Nat) (V : Vol) (h1 : V.length ≤ 2 * N + 100) (h2 : (alV V).length ≤ 2 * N + 100) (h3 : ∀ A,A ∈ V → AZ (3 * N + 300) A) : WZ (3 * N + 300) (w.set v V) := by
  have q1 := fm_set_len alV V w v
  have q2 := flat_set_len w v V
  have q3 := h.n
  have q4 := h.al
  have q5 := h.ar
  refine ⟨by rw [List.length_set]; omega,by omega,by omega,fun X hX => ?_⟩
  rcases List.mem_or_eq_of_mem_set hX with hX | rfl
  · have := h.v X hX
    exact ⟨by omega,fun A hA => (this.2 A hA).mono (by omega)⟩
  · exact ⟨by omega,h3⟩
theorem WZ.mono {N K : Nat} {w : Wrk} (h : WZ N w) (hk : N ≤ K) : WZ K w :=
  ⟨Nat.le_trans h.n hk,Nat.le_trans h.al hk,Nat.le_trans h.ar hk,fun V hV => ⟨Nat.le_trans (h.v V hV).1 hk,fun A hA => ((h.v V hV).2 A hA).mono hk⟩⟩
theorem WZ.alv {N : Nat} {w : Wrk} (h : WZ N w) {V : Vol} (hV : V ∈ w) : (alV V).length ≤ N := Nat.le_trans (fm_mem_len alV V w hV) h.al
theorem WZ.setL {N : Nat} {w : Wrk} (h : WZ N w) {v a : Nat} (hv : v < w.length) (ha : a < (gt w v).length) (t : List UInt8) (l : List Psg) (ht : t.length ≤ N + 100) (hl : l.length ≤ N + 1) (hp : ∀ p,p ∈ l → PZ (N + 100) p) : WZ (3 * N + 300) (w.set v ((gt w v).set a (t,l))) := by
  have hV := gt_mem' w v hv
  have q1 := (h.v _ hV).1
  have q2 := h.alv hV
  have q3 := fm_set_len (fun A : Art => A.2) (t,l) (gt w v) a
  refine h.set v _ (by rw [List.length_set]; omega) ?_ fun A hA => ?_
  · have : (alV ((gt w v).set a (t,l))).length ≤ (alV (gt w v)).length + l.length := q3
    omega
  · rcases List.mem_or_eq_of_mem_set hA with hA | rfl
    · exact ((h.v _ hV).2 A hA).mono (by omega)
    · exact ⟨by show t.length ≤ _; omega,by show l.length ≤ _; omega,fun p hp' => (hp p hp').mono (by omega)⟩
theorem ch4_i64 {a c : Nat} {y : Int} {i : Nat} (hi : i < 4) (ha : a ≤ 2000) (hc : c ≤ 2000) (hy : -9223372036854775808 ≤ y ∧ y ≤ 9223372036854775807) : I64 (gt (ch4 a c y) i) := by
  match i,hi with
  | 0,_ => exact ⟨by show -9223372036854775808 ≤ (a : Int); omega,by show (a : Int) ≤ 9223372036854775807; omega⟩
  | 1,_ => exact ⟨by show -9223372036854775808 ≤ (-1 : Int); omega,by show (-1 : Int) ≤ 9223372036854775807; omega⟩
  | 2,_ => exact ⟨by show -9223372036854775808 ≤ (c : Int); omega,by show (c : Int) ≤ 9223372036854775807; omega⟩
  | 3,_ => exact hy
theorem nat_i64 {n : Nat} (h : n ≤ 2000) : I64 (n : Int) := ⟨by omega,by omega⟩
theorem txt9_le {i : Nat} : (gt txt9 i).length ≤ 4 := by
  rcases i with _ | _ | _ | _ | _ | _ | _ | _ | _ | i
  all_goals first | decide | exact Nat.zero_le _
theorem tit4_le {i : Nat} : (gt tit4 i).length ≤ 4 := by
  rcases i with _ | _ | _ | _ | i
  all_goals first | decide | exact Nat.zero_le _
theorem chgP_pz {N : Nat} {p : Psg} (h : PZ N p) (how y : Int) (hy : -9223372036854775808 ≤ y ∧ y ≤ 9223372036854775807) : PZ (N + 100) (chgP p how y) := by
  obtain ⟨h1,h2,h3,h4,h5⟩ := h
  have a4 := around_lt y (m := 4) (by decide)
  have a8 := around_lt y (m := 8) (by decide)
  unfold chgP
  generalize aroundI how 10 = n
  rcases n with _ | _ | _ | _ | _ | _ | _ | _ | _ | n
  · exact ⟨by show p.2.2.2.1.length ≤ _; omega,by show p.2.2.2.2.length ≤ _; omega,ch4_i64 a4 (by decide) (by decide) hy,h4,h5⟩
  · exact ⟨by show p.2.2.2.1.length ≤ _; omega,by show p.2.2.2.2.length ≤ _; omega,h3,ch4_i64 a4 (by decide) (by decide) hy,h5⟩
  · exact ⟨by show p.2.2.2.1.length ≤ _; omega,by show p.2.2.2.2.length ≤ _; omega,h3,h4,ch4_i64 a4 (by decide) (by decide) hy⟩
  · exact ⟨by show p.2.2.2.1.length ≤ _; omega,by show p.2.2.2.2.length ≤ _; omega,h3,h4,h5⟩
  · exact ⟨by show p.2.2.2.1.length ≤ _; omega,by show p.2.2.2.2.length ≤ _; omega,h3,h4,h5⟩
  · exact ⟨by show (gt txt9 _).length ≤ _; have := txt9_le (i := aroundI y 9); omega,by show p.2.2.2.2.length ≤ _; omega,h3,h4,h5⟩
  · exact ⟨by show p.2.2.2.1.length ≤ _; omega,by show (p.2.2.2.2 ++ [_]).length ≤ _; rw [List.length_append,List.length_singleton]; omega,h3,h4,h5⟩
  · exact ⟨by show p.2.2.2.1.length ≤ _; omega,by show 1 ≤ _; omega,h3,h4,h5⟩
  · exact ⟨by show p.2.2.2.1.length ≤ _; omega,by show p.2.2.2.2.length ≤ _; omega,nat_i64 (by omega),nat_i64 (by omega),nat_i64 (by omega)⟩
  · exact ⟨by show (p.2.2.2.1 ++ [_,_]).length ≤ _; rw [List.length_append]; show _ + 2 ≤ _; omega,by show p.2.2.2.2.length ≤ _; omega,h3,h4,h5⟩
theorem oneP_pz (l : List Int) (a : Nat) (id : ID) (h : IdOk id) : PZ 100 (oneP l a id) := by
  have h1 := txtP_len l a (oneN l a)
  have h2 := oneN_le l a
  have h3 := refP_len l a (oneN l a)
  exact ⟨by show (txtP l a (oneN l a)).length ≤ _; omega,by show (refP l a (oneN l a)).length ≤ _; omega,h⟩
theorem AZ_nil {N : Nat} : AZ N ([],[]) := ⟨Nat.zero_le _,Nat.zero_le _,fun p hp => by cases hp⟩
theorem alV_rep (n : Nat) (t : List UInt8) : alV (List.replicate n (t,[])) = [] := by
  unfold alV
  induction n with
  | zero => rfl
  | succ n ih => rw [List.replicate_succ,List.flatMap_cons,ih]; rfl
theorem fmV_rep (n : Nat) : (List.replicate n ([] : Vol)).flatMap alV = [] := by
  induction n with
  | zero => rfl
  | succ n ih => rw [List.replicate_succ,List.flatMap_cons,ih]; rfl
theorem flt_repV (n : Nat) : (List.replicate n ([] : Vol)).flatten = [] := by
  induction n with
  | zero => rfl
  | succ n ih => rw [List.replicate_succ,List.flatten_cons,ih]; rfl
theorem spN_wz {N : Nat} {w : Wrk} (h : WZ N w) {v b : Nat} (hv : v < w.length) (hb : b < (gt w v).length) (y : Int) (hy : -9223372036854775808 ≤ y ∧ y ≤ 9223372036854775807) (n : Nat) : WZ (3 * N + 300) (spN w v b y n) := by
  have hV := gt_mem' w v hv
  have hA := gt_mem' _ b hb
  have q1 := (h.v _ hV).1
  have q2 := h.alv hV
  have q3 := (h.v _ hV).2 _ hA
  have hL := q3.2.1
  have ht := q3.1
  have n1 := h.n
  have n2 := h.al
  have n3 := h.ar
  rcases n with _ | _ | _ | _ | _ | _ | _ | n
  · have a9 := around_lt y (m := 9) (by decide)
    refine ⟨?_,?_,?_,fun V hV' => ?_⟩
    · show (w ++ List.replicate _ []).length ≤ _
      rw [List.length_append,List.length_replicate]; omega
    · show ((w ++ List.replicate _ []).flatMap alV).length ≤ _
      rw [List.flatMap_append,fmV_rep,List.append_nil]; omega
    · show (w ++ List.replicate _ []).flatten.length ≤ _
      rw [List.flatten_append,flt_repV,List.append_nil]; omega
    · rcases List.mem_append.1 hV' with hV' | hV'
      · exact ⟨by have := (h.v V hV').1; omega,fun A hA => ((h.v V hV').2 A hA).mono (by omega)⟩
      · rw [List.eq_of_mem_replicate hV']
        exact ⟨Nat.zero_le _,fun A hA => by cases hA⟩
  · exact h.setL hv hb _ _ (by have := tit4_le (i := aroundI (y.tdiv ((4 : Nat) : Int)) 4); omega) (by omega) fun p hp => (q3.2.2 p hp).mono (by omega)
  · refine h.set v _ (by rw [List.length_append,List.length_singleton]; omega) ?_ fun A hA' => ?_
    · show (alV (gt w v ++ [gt (gt w v) b])).length ≤ _
      have : (alV (gt w v ++ [gt (gt w v) b])).length = (alV (gt w v)).length + (gt (gt w v) b).2.length := by
        unfold alV; rw [List.flatMap_append,List.length_append]; simp
      omega
    · rcases List.mem_append.1 hA' with hA' | hA'
      · exact ((h.v _ hV).2 A hA').mono (by omega)
      · rw [List.mem_singleton.1 hA']; exact q3.mono (by omega)
  · show WZ _ (if _ then _ else _)
    split
    · exact h.setL hv hb _ _ (by omega) (by rw [List.length_drop]; omega) fun p hp => (q3.2.2 p (List.mem_of_mem_drop hp)).mono (by omega)
    · exact h.mono (by omega)
  · show WZ _ (if _ then _ else _)
    split
    · rename_i h1
      refine h.setL hv hb _ _ (by omega) (by rw [List.length_set,List.length_set]; omega) fun p hp => ?_
      rcases List.mem_or_eq_of_mem_set hp with hp | rfl
      · rcases List.mem_or_eq_of_mem_set hp with hp | rfl
        · exact (q3.2.2 p hp).mono (by omega)
        · exact (q3.2.2 _ (gt_mem' _ _ (by omega))).mono (by omega)
      · exact (q3.2.2 _ (gt_mem' _ _ (by omega))).mono (by omega)
    · exact h.mono (by omega)
  · have a3 := around_lt (y.tdiv ((4 : Nat) : Int)) (m := 3) (by decide)
    refine h.set v _ (by rw [List.length_append,List.length_replicate]; omega) ?_ fun A hA' => ?_
    · show (alV (gt w v ++ List.replicate _ _)).length ≤ _
      have : ∀ k,(alV (gt w v ++ List.replicate k ([120],[]))).length = (alV (gt w v)).length := fun k => by
        have e := alV_rep k [120]
        unfold alV at e ⊢
        rw [List.flatMap_append,e,List.append_nil]
      rw [this]; omega
    · rcases List.mem_append.1 hA' with hA' | hA'
      · exact ((h.v _ hV).2 A hA').mono (by omega)
      · rw [List.eq_of_mem_replicate hA']
        exact ⟨by show 1 ≤ _; omega,Nat.zero_le _,fun p hp => by cases hp⟩
  · exact h.set v _ (Nat.zero_le _) (Nat.zero_le _) fun A hA => by cases hA
  · refine h.setL hv hb _ _ (by omega) (by rw [List.length_append,List.length_singleton]; omega) fun p hp => ?_
    have a12 := around_lt y (m := 12) (by decide)
    rcases List.mem_append.1 hp with hp | hp
    · exact (q3.2.2 p hp).mono (by omega)
    · rw [List.mem_singleton.1 hp]
      exact (oneP_pz _ _ _ ⟨nat_i64 (n := 0) (by decide),nat_i64 (by omega),nat_i64 (n := 0) (by decide)⟩).mono (by omega)
theorem spW_wz {N : Nat} {w : Wrk} (h : WZ N w) (how y : Int) (hy : -9223372036854775808 ≤ y ∧ y ≤ 9223372036854775807) : WZ (3 * N + 300) (spW w how y) := by
  unfold spW
  split
  · rename_i hA
    obtain ⟨v,a,j,hf,hv,ha,hj⟩ := fnd_rng (around_lt y hA.1)
    rw [hf]
    have q3 := (h.v _ (gt_mem' w v hv)).2 _ (gt_mem' _ a ha)
    have hL := q3.2.1
    have ht := q3.1
    show WZ _ (Go.Sx.setL w v a ((gt (gt w v) a).2.set j (chgP (gt (gt (gt w v) a).2 j) (how.tdiv ((2 : Nat) : Int)) (y.tdiv ((8 : Nat) : Int)))))
    refine h.setL hv ha _ _ (by omega) (by rw [List.length_set]; omega) fun p hp => ?_
    rcases List.mem_or_eq_of_mem_set hp with hp | rfl
    · exact (q3.2.2 p hp).mono (by omega)
    · exact chgP_pz (q3.2.2 _ (gt_mem' _ _ hj)) _ _ (tdiv_rng y 8 hy)
  · split
    · have a10 := around_lt y (m := 10) (by decide)
      refine ⟨by rw [List.length_replicate]; omega,by rw [fmV_rep]; exact Nat.zero_le _,by rw [flt_repV]; exact Nat.zero_le _,fun V hV => ?_⟩
      rw [List.eq_of_mem_replicate hV]
      exact ⟨Nat.zero_le _,fun A hA => by cases hA⟩
    · rename_i h0
      have hv := around_lt y (m := w.length) (by omega)
      split
      · have a66 := around_lt y (m := 66) (by decide)
        refine h.set _ _ (by rw [List.length_replicate]; omega) (by rw [alV_rep]; exact Nat.zero_le _) fun A hA => ?_
        rw [List.eq_of_mem_replicate hA]; exact AZ_nil
      · rename_i h1
        exact spN_wz h hv (by omega) y hy _
theorem alW_fm (w : Wrk) : alW w = w.flatMap alV := alW_fl w
theorem WZ.wg {N : Nat} {w : Wrk} (h : WZ N w) (hN : N ≤ 100000) : WG w := by
  have h1 := h.n
  have h2 := h.al
  have h3 := h.ar
  refine ⟨by omega,by rw [alW_fm]; omega,?_,fun V hV => ⟨by have := (h.v V hV).1; omega,fun A hA => ?_⟩⟩
  · unfold nA; rw [List.take_length]; omega
  · have q := (h.v V hV).2 A hA
    exact ⟨by have := q.1; omega,by have := q.2.1; omega,fun p hp => ⟨by have := (q.2.2 p hp).1; omega,by have := (q.2.2 p hp).2.1; omega,(q.2.2 p hp).2.2⟩⟩
theorem psP_pz (l : List Int) (n : Nat) : ∀ j,n + j ≤ 8 → ∀ p,p ∈ psP l n j → PZ 100 p
  | 0,_,p,hp => by cases hp
  | j + 1,h,p,hp => by
    rw [psP,List.mem_append,List.mem_singleton] at hp
    rcases hp with hp | rfl
    · exact psP_pz l n j (by omega) p hp
    · have := oneP_pz l (9 + 4 * (n + j)) (idk (n + j)) ⟨nat_i64 (n := 0) (by decide),nat_i64 (by omega),nat_i64 (n := 0) (by decide)⟩
      unfold PZ at this ⊢
      rw [psF_1,psF_2]; exact this
theorem arP_az (l : List Int) (i n : Nat) (h : n ≤ 8) : ∀ k,∀ A,A ∈ (arP l i n k).1 → AZ 1000 A
  | 0,A,hA => by cases hA
  | k + 1,A,hA => by
    simp only [arP] at hA
    rw [List.mem_append,List.mem_singleton] at hA
    rcases hA with hA | rfl
    · exact arP_az l i n h k A hA
    · have h1 := arP_le l i n h k
      have h2 : cntP l i k (arP l i n k).2 = min (1 + atI l (5 + 2 * i + k) 3) (8 - (arP l i n k).2) := rfl
      refine ⟨?_,?_,?_⟩
      · have := (textT_ok l (3 + i + k)).2.1; show (textT l (3 + i + k)).length ≤ _; omega
      · show (psP _ _ _).length ≤ _; rw [psP_len]; omega
      · exact fun p hp => (psP_pz l _ _ (by omega) p hp).mono (by decide)
theorem voP_az (l : List Int) : ∀ i,∀ V,V ∈ (voP l i).1 → V.length ≤ 2 ∧ ∀ A,A ∈ V → AZ 1000 A
  | 0,V,hV => by cases hV
  | i + 1,V,hV => by
    simp only [voP] at hV
    rw [List.mem_append,List.mem_singleton] at hV
    rcases hV with hV | rfl
    · exact voP_az l i V hV
    · refine ⟨?_,arP_az l i _ (voP_le l i) _⟩
      rw [arP_len]
      have := atI_lt l (1 + i) (m := 2) (by decide); omega
theorem wkW_wz (l : List Int) : WZ 1000 (wkW l) := by
  have h1 := wkW_len l
  have h2 := atI_lt l 0 (m := 4) (by decide)
  have h3 := wkW_al l
  rw [alW_fm] at h3
  refine ⟨by omega,by omega,?_,fun V hV => ?_⟩
  · have := nA_bnd (w := wkW l) (fun V hV => (voP_pg l _ V hV).1) (wkW l).length (Nat.le_refl _)
    unfold nA at this
    rw [List.take_length] at this
    omega
  · have := voP_az l _ V hV
    exact ⟨by omega,this.2⟩
end Go.Sx
namespace Go.Sx
open Go.RowKit Go.Proofs
theorem CLe.full_cells {n : Nat} {xs xs' : List C} (hl : xs.length = xs'.length) (hc : ∀ (k : Nat) (x x' : C),xs[k]? = some x → xs'[k]? = some x' → CLe x x') : CLe (.sl .full n xs) (.sl .full n xs') := by
  refine ⟨fun G v h => ?_,fun s n' ys e => by cases e⟩
  simp only [Rep] at h ⊢
  obtain ⟨a,cap,h1,h2,h3,h4,h5⟩ := h
  refine ⟨a,cap,h1,h2,h3,h4,?_⟩
  rcases h5 with h5 | ⟨blk,off,h5,h6⟩
  · subst h5
    left
    exact List.eq_nil_of_length_eq_zero (by simpa using hl.symm)
  · right
    refine ⟨blk,off,h5,RepK.of_get fun i x' hx' => ?_⟩
    have hi := (List.getElem?_eq_some_iff.1 hx').1
    obtain ⟨u,q1,q2,q3⟩ := h6.get i _ (List.getElem?_eq_getElem (l := xs) (i := i) (by omega))
    exact ⟨u,q1,q2,(hc i _ _ (List.getElem?_eq_getElem (by omega)) hx').1 _ _ q3⟩
def wkC (w : Wrk) : List C := [sl vC .no w]
instance : Sca wkC (sl vC .no) := ⟨fun _ => rfl,fun _ => rfl,fun _ => rfl,fun _ _ => rfl⟩
instance : Nrf wkC := ⟨fun k x => by simp only [wkC,noRefs,noRef_sl,Bool.and_self]⟩
theorem CLe_works (a b c : Wrk) : CLe (.sl .full 4 [sl vC .no a,sl vC .no b,sl vC .no c,.val (.slice none 0 0)]) (sl wkC .full [a,b,c,[]]) := by
  refine CLe.full_cells (xs := [sl vC .no a,sl vC .no b,sl vC .no c,.val (.slice none 0 0)]) (xs' := cl wkC [a,b,c,[]]) rfl fun k x x' h1 h2 => ?_
  rcases k with _ | _ | _ | _ | k
  · cases h1; cases h2; exact CLe.refl _
  · cases h1; cases h2; exact CLe.refl _
  · cases h1; cases h2; exact CLe.refl _
  · cases h1; cases h2; exact CLe.nil _
  · simp at h1
theorem bsA_w4 (y : Nat) (a b c : Wrk) (u : TypeDesc) : bsA (some ⟨u,1,y,[.slice none 0 0]⟩) 4 [(0,.agg [sl vC .no a]),(1,.agg [sl vC .no b]),(2,.agg [sl vC .no c]),(3,.agg [.val (.slice none 0 0)])] = some (vp (.sl .full 4 [sl vC .no a,sl vC .no b,sl vC .no c,.val (.slice none 0 0)])) := rfl
def worksW (l : List Int) (how y : Int) : List Wrk := [wkW l,spW (wkW l) how y,spW (spW (wkW l) how y) y how,[]]
attribute [go_sem] bsA_w4
end Go.Sx
namespace Go.Sx
open Go.RowKit Go.Proofs
set_option maxRecDepth 100000
set_option maxHeartbeats 8000000
theorem X_fc11 {p : Prop} (e : p := by intro KZ hZ; simp -implicitDefEqProofs (maxSteps := 2000000) (disch := first | omega | (simp only [go_sem,lA,lD,lT] <;> omega) | decide) only [go_sem,↓reduceIte,Nat.reduceEqDiff,reduceCtorEq,Nat.reduceLT,Nat.reduceBEq,Nat.reduceAdd,e18,e51,e51b,hy]; with_reducible exact hZ) : p := e
theorem Y_fc11 {p : Prop} (e : p := by intro KZ hZ; simp -implicitDefEqProofs (maxSteps := 2000000) (disch := first | omega | (simp only [go_sem,lA,lD,lT] <;> omega) | decide) only [go_sem,↓reduceIte,Nat.reduceEqDiff,reduceCtorEq,Nat.reduceLT,Nat.reduceBEq,Nat.reduceAdd,e18,e51,e51b,hy]; with_reducible refine And.intro ?_ hZ; first | exact rfl | decide) : p := e
theorem F_fc11 {p : Prop} (e : p := by simp -implicitDefEqProofs (disch := first | omega | (simp only [go_sem,lA,lD,lT] <;> omega) | decide) only [go_sem,↓reduceIte,Nat.reduceEqDiff,reduceCtorEq]; all_goals (unfold worksW; rw [h0,h1,h2])) : p := e
theorem fc11 {gl : Nat → C} {M : Nat} {pu : Nat → List C → Option C} (hcx : CxOK (cxP gl M pu)) (h18 : ∀ l : List Int,LI l → pu 18 [sl iC .no l] = some (.agg [sl vC .no (wkW l)])) (h51 : ∀ (w : Wrk) (how y : Int),WG w → (-9223372036854775808 ≤ how ∧ how ≤ 9223372036854775807) → (-9223372036854775808 ≤ y ∧ y ≤ 9223372036854775807) → pu 51 [.agg [sl vC .no w],.val (.int .i64 how),.val (.int .i64 y)] = some (.agg [sl vC .no (spW w how y)])) (l : List Int) (how y : Int) (hl : LI l) (hho : (-9223372036854775808 ≤ how ∧ how ≤ 9223372036854775807)) (hy0 : (-9223372036854775808 ≤ y ∧ y ≤ 9223372036854775807)) : FC Tryd.prog gl 11 [sl iC .no l,.val (.int .i64 how),.val (.int .i64 y)] [] (sl wkC .full (worksW l how y)) [] := by
 replace hcx := hcx.reN (M := 23)
 refine FC.ofA (cx := cxP gl 23 pu) (rs := [.tmp 6]) rfl Tryd.func11 rfl rfl rfl (by simp only [List.length_cons,List.length_nil]; decide) (by simp only [go_sem]) ?_
 simp only [ini,go_sem]
 have hy := True.intro
 have e18 := h18 l hl
 have g0 := (wkW_wz l).wg (by decide)
 have z1 := spW_wz (wkW_wz l) how y hy0
 have g1 := z1.wg (by decide)
 have e51 := h51 _ how y g0 hho hy0
 have e51b := h51 _ y how g1 hy0 hho
 obtain ⟨W0,h0⟩ : ∃ W0,wkW l = W0 := ⟨_,rfl⟩
 rw [h0] at e18 e51 e51b
 obtain ⟨W1,h1⟩ : ∃ W1,spW W0 how y = W1 := ⟨_,rfl⟩
 rw [h1] at e51 e51b
 obtain ⟨W2,h2⟩ : ∃ W2,spW W1 y how = W2 := ⟨_,rfl⟩
 rw [h2] at e51b
 refine Tr.w hcx [] _ [] rfl rfl rfl ?_ X_fc11
 refine Tr.w hcx [] _ [none] rfl rfl rfl ?_ X_fc11
 refine Tr.w hcx [] _ [none] rfl rfl rfl ?_ X_fc11
 refine Tr.wD hcx hMO [1000022] _ [] rfl rfl rfl rfl ?_ Y_fc11
 refine Tr.live [(6,sl wkC .full [W0,W1,W2,[]])] ?_ ?_
 exact ⟨CLe_works _ _ _,trivial⟩
 exact Tr.ret F_fc11
end Go.Sx
namespace Go.Sx
open Go.RowKit Go.Proofs
set_option maxRecDepth 100000
set_option maxHeartbeats 8000000
theorem exP0 : ([C.val (nI 0),C.val (nI 0),C.val (nI 0),C.val (nI 0),C.val (nI 0),C.val (str []),sl iD .no []] : List C) = pC default := rfl
theorem X_fc35_0neg {p : Prop} (e : p := by intro KZ hZ; simp -implicitDefEqProofs (maxSteps := 2000000) (disch := first | omega | (simp only [go_sem,lA,lD,lT,hw1,hvl,hal] <;> omega) | decide) only [go_sem,↓reduceIte,Nat.reduceEqDiff,reduceCtorEq,Nat.reduceLT,Nat.reduceBEq,Nat.reduceAdd,Nat.not_lt_zero,hv1,hy]; with_reducible exact hZ) : p := e
theorem F_fc35_0neg {p : Prop} (e : p := by simp -implicitDefEqProofs (disch := first | omega | (simp only [go_sem,lA,lD,lT,hw1,hvl,hal] <;> omega) | decide) only [go_sem,↓reduceIte,Nat.reduceEqDiff,reduceCtorEq]; all_goals (rfl)) : p := e
theorem fc35_0neg {gl : Nat → C} {M : Nat} {pu : Nat → List C → Option C} (hcx : CxOK (cxP gl M pu)) (w : Wrk) (v : Int) (a : Int) (i : Int) (hv : v < 0) (hw : WB w) : FC Tryd.prog gl 35 [.agg [sl vC .no w],.agg [.val (.int .i64 v),.val (.int .i64 a),.val (.int .i64 i)]] [] (.tup [.agg (pC default),.val (.bool false)]) [] := by
 replace hcx := hcx.reN (M := 61)
 refine FC.ofA (cx := cxP gl 61 pu) (rs := [.cell 4 37,.tmp 5]) rfl Tryd.func35 rfl rfl rfl (by simp only [List.length_cons,List.length_nil]; decide) (by simp only [go_sem]) ?_
 simp only [ini,go_sem]
 have hy := True.intro
 have hw1 := hw.1
 have hvl := True.intro
 have hal := True.intro
 have hv1 : (v < ((0 : Nat) : Int)) = True := eq_true hv
 refine Tr.w hcx [] _ [none,none,none] rfl rfl rfl ?_ X_fc35_0neg
 refine Tr.seqK fun K1 hK1 => ?_
 refine Tr.w hcx [] [some 8,some 9,some 10,some 11,some 12,some 13,some 14,some 15,some 16,some 17,some 18] [] rfl rfl rfl ?_ X_fc35_0neg
 refine Tr.cT rfl ?_
 refine Tr.w hcx [] _ [] rfl rfl rfl ?_ X_fc35_0neg
 refine Tr.bxc 2 6 (sl iD .no []) [.val (nI 0),.val (nI 0),.val (nI 0),.val (nI 0),.val (nI 0),.val (str []),.val (.slice none 0 0)] (by simp only [go_sem]) rfl (CLe.nil _) rfl ?_
 simp only [List.set_cons_succ,List.set_cons_zero,exP0]
 exact Tr.ret F_fc35_0neg
theorem X_fc35_0big {p : Prop} (e : p := by intro KZ hZ; simp -implicitDefEqProofs (maxSteps := 2000000) (disch := first | omega | (simp only [go_sem,lA,lD,lT,hw1,hvl,hal] <;> omega) | decide) only [go_sem,↓reduceIte,Nat.reduceEqDiff,reduceCtorEq,Nat.reduceLT,Nat.reduceBEq,Nat.reduceAdd,Nat.not_lt_zero,hv1,hy]; with_reducible exact hZ) : p := e
theorem F_fc35_0big {p : Prop} (e : p := by simp -implicitDefEqProofs (disch := first | omega | (simp only [go_sem,lA,lD,lT,hw1,hvl,hal] <;> omega) | decide) only [go_sem,↓reduceIte,Nat.reduceEqDiff,reduceCtorEq]; all_goals (rfl)) : p := e
theorem fc35_0big {gl : Nat → C} {M : Nat} {pu : Nat → List C → Option C} (hcx : CxOK (cxP gl M pu)) (w : Wrk) (v : Nat) (a : Int) (i : Int) (hv : w.length ≤ v) (hw : WB w) : FC Tryd.prog gl 35 [.agg [sl vC .no w],.agg [.val (nI v),.val (.int .i64 a),.val (.int .i64 i)]] [] (.tup [.agg (pC default),.val (.bool false)]) [] := by
 replace hcx := hcx.reN (M := 61)
 refine FC.ofA (cx := cxP gl 61 pu) (rs := [.cell 4 37,.tmp 5]) rfl Tryd.func35 rfl rfl rfl (by simp only [List.length_cons,List.length_nil]; decide) (by simp only [go_sem]) ?_
 simp only [ini,go_sem]
 have hy := True.intro
 have hw1 := hw.1
 have hvl := True.intro
 have hal := True.intro
 have hv1 : (w.length ≤ v) = True := eq_true hv
 refine Tr.w hcx [] _ [none,none,none] rfl rfl rfl ?_ X_fc35_0big
 refine Tr.seqK fun K1 hK1 => ?_
 refine Tr.w hcx [] [some 8,some 9,some 10,some 11,some 12,some 13,some 14,some 15,some 16,some 17,some 18] [] rfl rfl rfl ?_ X_fc35_0big
 refine Tr.cT rfl ?_
 refine Tr.w hcx [] _ [] rfl rfl rfl ?_ X_fc35_0big
 refine Tr.bxc 2 6 (sl iD .no []) [.val (nI 0),.val (nI 0),.val (nI 0),.val (nI 0),.val (nI 0),.val (str []),.val (.slice none 0 0)] (by simp only [go_sem]) rfl (CLe.nil _) rfl ?_
 simp only [List.set_cons_succ,List.set_cons_zero,exP0]
 exact Tr.ret F_fc35_0big
theorem X_fc35_1neg {p : Prop} (e : p := by intro KZ hZ; simp -implicitDefEqProofs (maxSteps := 2000000) (disch := first | omega | (simp only [go_sem,lA,lD,lT,hw1,hvl,hal] <;> omega) | decide) only [go_sem,↓reduceIte,Nat.reduceEqDiff,reduceCtorEq,Nat.reduceLT,Nat.reduceBEq,Nat.reduceAdd,Nat.not_lt_zero,hv1,ha1,hy]; with_reducible exact hZ) : p := e
theorem F_fc35_1neg {p : Prop} (e : p := by simp -implicitDefEqProofs (disch := first | omega | (simp only [go_sem,lA,lD,lT,hw1,hvl,hal] <;> omega) | decide) only [go_sem,↓reduceIte,Nat.reduceEqDiff,reduceCtorEq]; all_goals (rfl)) : p := e
theorem fc35_1neg {gl : Nat → C} {M : Nat} {pu : Nat → List C → Option C} (hcx : CxOK (cxP gl M pu)) (w : Wrk) (v : Nat) (a : Int) (i : Int) (hv : v < w.length) (ha : a < 0) (hw : WB w) : FC Tryd.prog gl 35 [.agg [sl vC .no w],.agg [.val (nI v),.val (.int .i64 a),.val (.int .i64 i)]] [] (.tup [.agg (pC default),.val (.bool false)]) [] := by
 replace hcx := hcx.reN (M := 61)
 refine FC.ofA (cx := cxP gl 61 pu) (rs := [.cell 4 37,.tmp 5]) rfl Tryd.func35 rfl rfl rfl (by simp only [List.length_cons,List.length_nil]; decide) (by simp only [go_sem]) ?_
 simp only [ini,go_sem]
 have hy := True.intro
 have hw1 := hw.1
 have hvl := True.intro
 have hal := True.intro
 have hv1 : (w.length ≤ v) = False := eq_false (by omega)
 have hvl := hw.2.1 v hv
 have ha1 : (a < ((0 : Nat) : Int)) = True := eq_true ha
 refine Tr.w hcx [] _ [none,none,none] rfl rfl rfl ?_ X_fc35_1neg
 refine Tr.seqK fun K1 hK1 => ?_
 refine Tr.w hcx [] [some 8,some 9,some 10,some 11,some 12,some 13,some 14,some 15,some 16,some 17,some 18] [] rfl rfl rfl ?_ X_fc35_1neg
 refine Tr.cF rfl ?_
 refine Tr.skip ?_
 refine hK1 _ ?_
 refine Tr.w hcx [] _ [none] rfl rfl rfl ?_ X_fc35_1neg
 refine Tr.k [3,4,6] ?_
 refine Tr.seqK fun K2 hK2 => ?_
 refine Tr.w hcx [] [some 26,some 27,some 28,some 29,some 30,some 31,some 32,some 33,some 34,some 35,some 36] [] rfl rfl rfl ?_ X_fc35_1neg
 refine Tr.cT rfl ?_
 refine Tr.w hcx [] _ [] rfl rfl rfl ?_ X_fc35_1neg
 refine Tr.bxc 2 6 (sl iD .no []) [.val (nI 0),.val (nI 0),.val (nI 0),.val (nI 0),.val (nI 0),.val (str []),.val (.slice none 0 0)] (by simp only [go_sem]) rfl (CLe.nil _) rfl ?_
 simp only [List.set_cons_succ,List.set_cons_zero,exP0]
 exact Tr.ret F_fc35_1neg
theorem X_fc35_1big {p : Prop} (e : p := by intro KZ hZ; simp -implicitDefEqProofs (maxSteps := 2000000) (disch := first | omega | (simp only [go_sem,lA,lD,lT,hw1,hvl,hal] <;> omega) | decide) only [go_sem,↓reduceIte,Nat.reduceEqDiff,reduceCtorEq,Nat.reduceLT,Nat.reduceBEq,Nat.reduceAdd,Nat.not_lt_zero,hv1,ha1,hy]; with_reducible exact hZ) : p := e
theorem F_fc35_1big {p : Prop} (e : p := by simp -implicitDefEqProofs (disch := first | omega | (simp only [go_sem,lA,lD,lT,hw1,hvl,hal] <;> omega) | decide) only [go_sem,↓reduceIte,Nat.reduceEqDiff,reduceCtorEq]; all_goals (rfl)) : p := e
theorem fc35_1big {gl : Nat → C} {M : Nat} {pu : Nat → List C → Option C} (hcx : CxOK (cxP gl M pu)) (w : Wrk) (v : Nat) (a : Nat) (i : Int) (hv : v < w.length) (ha : (gt w v).length ≤ a) (hw : WB w) : FC Tryd.prog gl 35 [.agg [sl vC .no w],.agg [.val (nI v),.val (nI a),.val (.int .i64 i)]] [] (.tup [.agg (pC default),.val (.bool false)]) [] := by
 replace hcx := hcx.reN (M := 61)
 refine FC.ofA (cx := cxP gl 61 pu) (rs := [.cell 4 37,.tmp 5]) rfl Tryd.func35 rfl rfl rfl (by simp only [List.length_cons,List.length_nil]; decide) (by simp only [go_sem]) ?_
 simp only [ini,go_sem]
 have hy := True.intro
 have hw1 := hw.1
 have hvl := True.intro
 have hal := True.intro
 have hv1 : (w.length ≤ v) = False := eq_false (by omega)
 have hvl := hw.2.1 v hv
 have ha1 : ((gt w v).length ≤ a) = True := eq_true ha
 refine Tr.w hcx [] _ [none,none,none] rfl rfl rfl ?_ X_fc35_1big
 refine Tr.seqK fun K1 hK1 => ?_
 refine Tr.w hcx [] [some 8,some 9,some 10,some 11,some 12,some 13,some 14,some 15,some 16,some 17,some 18] [] rfl rfl rfl ?_ X_fc35_1big
 refine Tr.cF rfl ?_
 refine Tr.skip ?_
 refine hK1 _ ?_
 refine Tr.w hcx [] _ [none] rfl rfl rfl ?_ X_fc35_1big
 refine Tr.k [3,4,6] ?_
 refine Tr.seqK fun K2 hK2 => ?_
 refine Tr.w hcx [] [some 26,some 27,some 28,some 29,some 30,some 31,some 32,some 33,some 34,some 35,some 36] [] rfl rfl rfl ?_ X_fc35_1big
 refine Tr.cT rfl ?_
 refine Tr.w hcx [] _ [] rfl rfl rfl ?_ X_fc35_1big
 refine Tr.bxc 2 6 (sl iD .no []) [.val (nI 0),.val (nI 0),.val (nI 0),.val (nI 0),.val (nI 0),.val (str []),.val (.slice none 0 0)] (by simp only [go_sem]) rfl (CLe.nil _) rfl ?_
 simp only [List.set_cons_succ,List.set_cons_zero,exP0]
 exact Tr.ret F_fc35_1big
theorem X_fc35_2neg {p : Prop} (e : p := by intro KZ hZ; simp -implicitDefEqProofs (maxSteps := 2000000) (disch := first | omega | (simp only [go_sem,lA,lD,lT,hw1,hvl,hal] <;> omega) | decide) only [go_sem,↓reduceIte,Nat.reduceEqDiff,reduceCtorEq,Nat.reduceLT,Nat.reduceBEq,Nat.reduceAdd,Nat.not_lt_zero,hv1,ha1,hi1,hy]; with_reducible exact hZ) : p := e
theorem F_fc35_2neg {p : Prop} (e : p := by simp -implicitDefEqProofs (disch := first | omega | (simp only [go_sem,lA,lD,lT,hw1,hvl,hal] <;> omega) | decide) only [go_sem,↓reduceIte,Nat.reduceEqDiff,reduceCtorEq]; all_goals (rfl)) : p := e
theorem fc35_2neg {gl : Nat → C} {M : Nat} {pu : Nat → List C → Option C} (hcx : CxOK (cxP gl M pu)) (w : Wrk) (v : Nat) (a : Nat) (i : Int) (hv : v < w.length) (ha : a < (gt w v).length) (hi : i < 0) (hw : WB w) : FC Tryd.prog gl 35 [.agg [sl vC .no w],.agg [.val (nI v),.val (nI a),.val (.int .i64 i)]] [] (.tup [.agg (pC default),.val (.bool false)]) [] := by
 replace hcx := hcx.reN (M := 61)
 refine FC.ofA (cx := cxP gl 61 pu) (rs := [.cell 4 37,.tmp 5]) rfl Tryd.func35 rfl rfl rfl (by simp only [List.length_cons,List.length_nil]; decide) (by simp only [go_sem]) ?_
 simp only [ini,go_sem]
 have hy := True.intro
 have hw1 := hw.1
 have hvl := True.intro
 have hal := True.intro
 have hv1 : (w.length ≤ v) = False := eq_false (by omega)
 have hvl := hw.2.1 v hv
 have ha1 : ((gt w v).length ≤ a) = False := eq_false (by omega)
 have hal := hw.2.2 v a hv ha
 have hi1 : (i < ((0 : Nat) : Int)) = True := eq_true hi
 refine Tr.w hcx [] _ [none,none,none] rfl rfl rfl ?_ X_fc35_2neg
 refine Tr.seqK fun K1 hK1 => ?_
 refine Tr.w hcx [] [some 8,some 9,some 10,some 11,some 12,some 13,some 14,some 15,some 16,some 17,some 18] [] rfl rfl rfl ?_ X_fc35_2neg
 refine Tr.cF rfl ?_
 refine Tr.skip ?_
 refine hK1 _ ?_
 refine Tr.w hcx [] _ [none] rfl rfl rfl ?_ X_fc35_2neg
 refine Tr.k [3,4,6] ?_
 refine Tr.seqK fun K2 hK2 => ?_
 refine Tr.w hcx [] [some 26,some 27,some 28,some 29,some 30,some 31,some 32,some 33,some 34,some 35,some 36] [] rfl rfl rfl ?_ X_fc35_2neg
 refine Tr.cF rfl ?_
 refine Tr.skip ?_
 refine hK2 _ ?_
 refine Tr.w hcx [1000044] _ [] rfl rfl rfl ?_ X_fc35_2neg
 refine Tr.k [3,4,7] ?_
 refine Tr.seqK fun K3 hK3 => ?_
 refine Tr.w hcx [] [some 45,some 46,some 47,some 48,some 49,some 50,some 51,some 52,some 53,some 54] [] rfl rfl rfl ?_ X_fc35_2neg
 refine Tr.cT rfl ?_
 refine Tr.w hcx [] _ [] rfl rfl rfl ?_ X_fc35_2neg
 refine Tr.bxc 2 6 (sl iD .no []) [.val (nI 0),.val (nI 0),.val (nI 0),.val (nI 0),.val (nI 0),.val (str []),.val (.slice none 0 0)] (by simp only [go_sem]) rfl (CLe.nil _) rfl ?_
 simp only [List.set_cons_succ,List.set_cons_zero,exP0]
 exact Tr.ret F_fc35_2neg
theorem X_fc35_2big {p : Prop} (e : p := by intro KZ hZ; simp -implicitDefEqProofs (maxSteps := 2000000) (disch := first | omega | (simp only [go_sem,lA,lD,lT,hw1,hvl,hal] <;> omega) | decide) only [go_sem,↓reduceIte,Nat.reduceEqDiff,reduceCtorEq,Nat.reduceLT,Nat.reduceBEq,Nat.reduceAdd,Nat.not_lt_zero,hv1,ha1,hi1,hy]; with_reducible exact hZ) : p := e
theorem F_fc35_2big {p : Prop} (e : p := by simp -implicitDefEqProofs (disch := first | omega | (simp only [go_sem,lA,lD,lT,hw1,hvl,hal] <;> omega) | decide) only [go_sem,↓reduceIte,Nat.reduceEqDiff,reduceCtorEq]; all_goals (rfl)) : p := e
theorem fc35_2big {gl : Nat → C} {M : Nat} {pu : Nat → List C → Option C} (hcx : CxOK (cxP gl M pu)) (w : Wrk) (v : Nat) (a : Nat) (i : Nat) (hv : v < w.length) (ha : a < (gt w v).length) (hi : (gt (gt w v) a).2.length ≤ i) (hw : WB w) : FC Tryd.prog gl 35 [.agg [sl vC .no w],.agg [.val (nI v),.val (nI a),.val (nI i)]] [] (.tup [.agg (pC default),.val (.bool false)]) [] := by
 replace hcx := hcx.reN (M := 61)
 refine FC.ofA (cx := cxP gl 61 pu) (rs := [.cell 4 37,.tmp 5]) rfl Tryd.func35 rfl rfl rfl (by simp only [List.length_cons,List.length_nil]; decide) (by simp only [go_sem]) ?_
 simp only [ini,go_sem]
 have hy := True.intro
 have hw1 := hw.1
 have hvl := True.intro
 have hal := True.intro
 have hv1 : (w.length ≤ v) = False := eq_false (by omega)
 have hvl := hw.2.1 v hv
 have ha1 : ((gt w v).length ≤ a) = False := eq_false (by omega)
 have hal := hw.2.2 v a hv ha
 have hi1 : ((gt (gt w v) a).2.length ≤ i) = True := eq_true hi
 refine Tr.w hcx [] _ [none,none,none] rfl rfl rfl ?_ X_fc35_2big
 refine Tr.seqK fun K1 hK1 => ?_
 refine Tr.w hcx [] [some 8,some 9,some 10,some 11,some 12,some 13,some 14,some 15,some 16,some 17,some 18] [] rfl rfl rfl ?_ X_fc35_2big
 refine Tr.cF rfl ?_
 refine Tr.skip ?_
 refine hK1 _ ?_
 refine Tr.w hcx [] _ [none] rfl rfl rfl ?_ X_fc35_2big
 refine Tr.k [3,4,6] ?_
 refine Tr.seqK fun K2 hK2 => ?_
 refine Tr.w hcx [] [some 26,some 27,some 28,some 29,some 30,some 31,some 32,some 33,some 34,some 35,some 36] [] rfl rfl rfl ?_ X_fc35_2big
 refine Tr.cF rfl ?_
 refine Tr.skip ?_
 refine hK2 _ ?_
 refine Tr.w hcx [1000044] _ [] rfl rfl rfl ?_ X_fc35_2big
 refine Tr.k [3,4,7] ?_
 refine Tr.seqK fun K3 hK3 => ?_
 refine Tr.w hcx [] [some 45,some 46,some 47,some 48,some 49,some 50,some 51,some 52,some 53,some 54] [] rfl rfl rfl ?_ X_fc35_2big
 refine Tr.cT rfl ?_
 refine Tr.w hcx [] _ [] rfl rfl rfl ?_ X_fc35_2big
 refine Tr.bxc 2 6 (sl iD .no []) [.val (nI 0),.val (nI 0),.val (nI 0),.val (nI 0),.val (nI 0),.val (str []),.val (.slice none 0 0)] (by simp only [go_sem]) rfl (CLe.nil _) rfl ?_
 simp only [List.set_cons_succ,List.set_cons_zero,exP0]
 exact Tr.ret F_fc35_2big
theorem X_fc34_0neg {p : Prop} (e : p := by intro KZ hZ; simp -implicitDefEqProofs (maxSteps := 2000000) (disch := first | omega | (simp only [go_sem,lA,lD,lT,hw1,hvl,hal] <;> omega) | decide) only [go_sem,↓reduceIte,Nat.reduceEqDiff,reduceCtorEq,Nat.reduceLT,Nat.reduceBEq,Nat.reduceAdd,Nat.not_lt_zero,hv1,hy]; with_reducible exact hZ) : p := e
theorem F_fc34_0neg {p : Prop} (e : p := by simp -implicitDefEqProofs (disch := first | omega | (simp only [go_sem,lA,lD,lT,hw1,hvl,hal] <;> omega) | decide) only [go_sem,↓reduceIte,Nat.reduceEqDiff,reduceCtorEq]; all_goals (rfl)) : p := e
theorem fc34_0neg {gl : Nat → C} {M : Nat} {pu : Nat → List C → Option C} (hcx : CxOK (cxP gl M pu)) (w : Wrk) (v : Int) (a : Int) (i : Int) (hv : v < 0) (hw : WB w) : FC Tryd.prog gl 34 [.agg [sl vC .no w],.agg [.val (.int .i64 v),.val (.int .i64 a),.val (.int .i64 i)]] [] (.tup [.agg (pC default),.val (.bool false)]) [] := by
 replace hcx := hcx.reN (M := 67)
 refine FC.ofA (cx := cxP gl 67 pu) (rs := [.cell 4 37,.tmp 5]) rfl Tryd.func34 rfl rfl rfl (by simp only [List.length_cons,List.length_nil]; decide) (by simp only [go_sem]) ?_
 simp only [ini,go_sem]
 have hy := True.intro
 have hw1 := hw.1
 have hvl := True.intro
 have hal := True.intro
 have hv1 : (v < ((0 : Nat) : Int)) = True := eq_true hv
 refine Tr.w hcx [] _ [none,none,none] rfl rfl rfl ?_ X_fc34_0neg
 refine Tr.seqK fun K1 hK1 => ?_
 refine Tr.w hcx [] [some 7,some 8,some 9,some 10,some 11,some 12,some 13,some 14,some 15,some 16,some 17] [] rfl rfl rfl ?_ X_fc34_0neg
 refine Tr.cT rfl ?_
 refine Tr.w hcx [] _ [] rfl rfl rfl ?_ X_fc34_0neg
 refine Tr.bxc 2 6 (sl iD .no []) [.val (nI 0),.val (nI 0),.val (nI 0),.val (nI 0),.val (nI 0),.val (str []),.val (.slice none 0 0)] (by simp only [go_sem]) rfl (CLe.nil _) rfl ?_
 simp only [List.set_cons_succ,List.set_cons_zero,exP0]
 exact Tr.ret F_fc34_0neg
theorem X_fc34_0big {p : Prop} (e : p := by intro KZ hZ; simp -implicitDefEqProofs (maxSteps := 2000000) (disch := first | omega | (simp only [go_sem,lA,lD,lT,hw1,hvl,hal] <;> omega) | decide) only [go_sem,↓reduceIte,Nat.reduceEqDiff,reduceCtorEq,Nat.reduceLT,Nat.reduceBEq,Nat.reduceAdd,Nat.not_lt_zero,hv1,hy]; with_reducible exact hZ) : p := e
theorem F_fc34_0big {p : Prop} (e : p := by simp -implicitDefEqProofs (disch := first | omega | (simp only [go_sem,lA,lD,lT,hw1,hvl,hal] <;> omega) | decide) only [go_sem,↓reduceIte,Nat.reduceEqDiff,reduceCtorEq]; all_goals (rfl)) : p := e
theorem fc34_0big {gl : Nat → C} {M : Nat} {pu : Nat → List C → Option C} (hcx : CxOK (cxP gl M pu)) (w : Wrk) (v : Nat) (a : Int) (i : Int) (hv : w.length ≤ v) (hw : WB w) : FC Tryd.prog gl 34 [.agg [sl vC .no w],.agg [.val (nI v),.val (.int .i64 a),.val (.int .i64 i)]] [] (.tup [.agg (pC default),.val (.bool false)]) [] := by
 replace hcx := hcx.reN (M := 67)
 refine FC.ofA (cx := cxP gl 67 pu) (rs := [.cell 4 37,.tmp 5]) rfl Tryd.func34 rfl rfl rfl (by simp only [List.length_cons,List.length_nil]; decide) (by simp only [go_sem]) ?_
 simp only [ini,go_sem]
 have hy := True.intro
 have hw1 := hw.1
 have hvl := True.intro
 have hal := True.intro
 have hv1 : (w.length ≤ v) = True := eq_true hv
 refine Tr.w hcx [] _ [none,none,none] rfl rfl rfl ?_ X_fc34_0big
 refine Tr.seqK fun K1 hK1 => ?_
 refine Tr.w hcx [] [some 7,some 8,some 9,some 10,some 11,some 12,some 13,some 14,some 15,some 16,some 17] [] rfl rfl rfl ?_ X_fc34_0big
 refine Tr.cT rfl ?_
 refine Tr.w hcx [] _ [] rfl rfl rfl ?_ X_fc34_0big
 refine Tr.bxc 2 6 (sl iD .no []) [.val (nI 0),.val (nI 0),.val (nI 0),.val (nI 0),.val (nI 0),.val (str []),.val (.slice none 0 0)] (by simp only [go_sem]) rfl (CLe.nil _) rfl ?_
 simp only [List.set_cons_succ,List.set_cons_zero,exP0]
 exact Tr.ret F_fc34_0big
theorem X_fc34_1neg {p : Prop} (e : p := by intro KZ hZ; simp -implicitDefEqProofs (maxSteps := 2000000) (disch := first | omega | (simp only [go_sem,lA,lD,lT,hw1,hvl,hal] <;> omega) | decide) only [go_sem,↓reduceIte,Nat.reduceEqDiff,reduceCtorEq,Nat.reduceLT,Nat.reduceBEq,Nat.reduceAdd,Nat.not_lt_zero,hv1,ha1,hy]; with_reducible exact hZ) : p := e
theorem Y_fc34_1neg {p : Prop} (e : p := by intro KZ hZ; simp -implicitDefEqProofs (maxSteps := 2000000) (disch := first | omega | (simp only [go_sem,lA,lD,lT,hw1,hvl,hal] <;> omega) | decide) only [go_sem,↓reduceIte,Nat.reduceEqDiff,reduceCtorEq,Nat.reduceLT,Nat.reduceBEq,Nat.reduceAdd,Nat.not_lt_zero,hv1,ha1,hy]; with_reducible refine And.intro ?_ hZ; first | exact rfl | decide) : p := e
theorem F_fc34_1neg {p : Prop} (e : p := by simp -implicitDefEqProofs (disch := first | omega | (simp only [go_sem,lA,lD,lT,hw1,hvl,hal] <;> omega) | decide) only [go_sem,↓reduceIte,Nat.reduceEqDiff,reduceCtorEq]; all_goals (rfl)) : p := e
theorem fc34_1neg {gl : Nat → C} {M : Nat} {pu : Nat → List C → Option C} (hcx : CxOK (cxP gl M pu)) (w : Wrk) (v : Nat) (a : Int) (i : Int) (hv : v < w.length) (ha : a < 0) (hw : WB w) : FC Tryd.prog gl 34 [.agg [sl vC .no w],.agg [.val (nI v),.val (.int .i64 a),.val (.int .i64 i)]] [] (.tup [.agg (pC default),.val (.bool false)]) [] := by
 replace hcx := hcx.reN (M := 67)
 refine FC.ofA (cx := cxP gl 67 pu) (rs := [.cell 4 37,.tmp 5]) rfl Tryd.func34 rfl rfl rfl (by simp only [List.length_cons,List.length_nil]; decide) (by simp only [go_sem]) ?_
 simp only [ini,go_sem]
 have hy := True.intro
 have hw1 := hw.1
 have hvl := True.intro
 have hal := True.intro
 have hv1 : (w.length ≤ v) = False := eq_false (by omega)
 have hvl := hw.2.1 v hv
 have ha1 : (a < ((0 : Nat) : Int)) = True := eq_true ha
 refine Tr.w hcx [] _ [none,none,none] rfl rfl rfl ?_ X_fc34_1neg
 refine Tr.seqK fun K1 hK1 => ?_
 refine Tr.w hcx [] [some 7,some 8,some 9,some 10,some 11,some 12,some 13,some 14,some 15,some 16,some 17] [] rfl rfl rfl ?_ X_fc34_1neg
 refine Tr.cF rfl ?_
 refine Tr.skip ?_
 refine hK1 _ ?_
 refine Tr.w hcx [] _ [none] rfl rfl rfl ?_ X_fc34_1neg
 refine Tr.k [3,4,6] ?_
 refine Tr.seqK fun K2 hK2 => ?_
 refine Tr.wD hcx hMO [] [some 25,some 26,some 27,some 28,some 29,some 30,some 31,some 32,some 33,some 34,some 35,some 36,some 37,some 38,some 39,some 40,some 41,some 42,some 43,some 44,some 45,some 46,some 47,some 48,some 49,some 50,some 51,some 52,some 53] [] rfl rfl rfl rfl ?_ Y_fc34_1neg
 refine Tr.k [3,4,6,53] ?_
 refine Tr.cT rfl ?_
 refine Tr.w hcx [] _ [] rfl rfl rfl ?_ X_fc34_1neg
 refine Tr.bxc 2 6 (sl iD .no []) [.val (nI 0),.val (nI 0),.val (nI 0),.val (nI 0),.val (nI 0),.val (str []),.val (.slice none 0 0)] (by simp only [go_sem]) rfl (CLe.nil _) rfl ?_
 simp only [List.set_cons_succ,List.set_cons_zero,exP0]
 exact Tr.ret F_fc34_1neg
theorem X_fc34_1big {p : Prop} (e : p := by intro KZ hZ; simp -implicitDefEqProofs (maxSteps := 2000000) (disch := first | omega | (simp only [go_sem,lA,lD,lT,hw1,hvl,hal] <;> omega) | decide) only [go_sem,↓reduceIte,Nat.reduceEqDiff,reduceCtorEq,Nat.reduceLT,Nat.reduceBEq,Nat.reduceAdd,Nat.not_lt_zero,hv1,ha1,hy]; with_reducible exact hZ) : p := e
theorem Y_fc34_1big {p : Prop} (e : p := by intro KZ hZ; simp -implicitDefEqProofs (maxSteps := 2000000) (disch := first | omega | (simp only [go_sem,lA,lD,lT,hw1,hvl,hal] <;> omega) | decide) only [go_sem,↓reduceIte,Nat.reduceEqDiff,reduceCtorEq,Nat.reduceLT,Nat.reduceBEq,Nat.reduceAdd,Nat.not_lt_zero,hv1,ha1,hy]; with_reducible refine And.intro ?_ hZ; first | exact rfl | decide) : p := e
theorem F_fc34_1big {p : Prop} (e : p := by simp -implicitDefEqProofs (disch := first | omega | (simp only [go_sem,lA,lD,lT,hw1,hvl,hal] <;> omega) | decide) only [go_sem,↓reduceIte,Nat.reduceEqDiff,reduceCtorEq]; all_goals (rfl)) : p := e
theorem fc34_1big {gl : Nat → C} {M : Nat} {pu : Nat → List C → Option C} (hcx : CxOK (cxP gl M pu)) (w : Wrk) (v : Nat) (a : Nat) (i : Int) (hv : v < w.length) (ha : (gt w v).length ≤ a) (hw : WB w) : FC Tryd.prog gl 34 [.agg [sl vC .no w],.agg [.val (nI v),.val (nI a),.val (.int .i64 i)]] [] (.tup [.agg (pC default),.val (.bool false)]) [] := by
 replace hcx := hcx.reN (M := 67)
 refine FC.ofA (cx := cxP gl 67 pu) (rs := [.cell 4 37,.tmp 5]) rfl Tryd.func34 rfl rfl rfl (by simp only [List.length_cons,List.length_nil]; decide) (by simp only [go_sem]) ?_
 simp only [ini,go_sem]
 have hy := True.intro
 have hw1 := hw.1
 have hvl := True.intro
 have hal := True.intro
 have hv1 : (w.length ≤ v) = False := eq_false (by omega)
 have hvl := hw.2.1 v hv
 have ha1 : ((gt w v).length ≤ a) = True := eq_true ha
 refine Tr.w hcx [] _ [none,none,none] rfl rfl rfl ?_ X_fc34_1big
 refine Tr.seqK fun K1 hK1 => ?_
 refine Tr.w hcx [] [some 7,some 8,some 9,some 10,some 11,some 12,some 13,some 14,some 15,some 16,some 17] [] rfl rfl rfl ?_ X_fc34_1big
 refine Tr.cF rfl ?_
 refine Tr.skip ?_
 refine hK1 _ ?_
 refine Tr.w hcx [] _ [none] rfl rfl rfl ?_ X_fc34_1big
 refine Tr.k [3,4,6] ?_
 refine Tr.seqK fun K2 hK2 => ?_
 refine Tr.wD hcx hMO [] [some 25,some 26,some 27,some 28,some 29,some 30,some 31,some 32,some 33,some 34,some 35,some 36,some 37,some 38,some 39,some 40,some 41,some 42,some 43,some 44,some 45,some 46,some 47,some 48,some 49,some 50,some 51,some 52,some 53] [] rfl rfl rfl rfl ?_ Y_fc34_1big
 refine Tr.k [3,4,6,53] ?_
 refine Tr.cT rfl ?_
 refine Tr.w hcx [] _ [] rfl rfl rfl ?_ X_fc34_1big
 refine Tr.bxc 2 6 (sl iD .no []) [.val (nI 0),.val (nI 0),.val (nI 0),.val (nI 0),.val (nI 0),.val (str []),.val (.slice none 0 0)] (by simp only [go_sem]) rfl (CLe.nil _) rfl ?_
 simp only [List.set_cons_succ,List.set_cons_zero,exP0]
 exact Tr.ret F_fc34_1big
theorem X_fc34_2neg {p : Prop} (e : p := by intro KZ hZ; simp -implicitDefEqProofs (maxSteps := 2000000) (disch := first | omega | (simp only [go_sem,lA,lD,lT,hw1,hvl,hal] <;> omega) | decide) only [go_sem,↓reduceIte,Nat.reduceEqDiff,reduceCtorEq,Nat.reduceLT,Nat.reduceBEq,Nat.reduceAdd,Nat.not_lt_zero,hv1,ha1,hi1,hy]; with_reducible exact hZ) : p := e
theorem Y_fc34_2neg {p : Prop} (e : p := by intro KZ hZ; simp -implicitDefEqProofs (maxSteps := 2000000) (disch := first | omega | (simp only [go_sem,lA,lD,lT,hw1,hvl,hal] <;> omega) | decide) only [go_sem,↓reduceIte,Nat.reduceEqDiff,reduceCtorEq,Nat.reduceLT,Nat.reduceBEq,Nat.reduceAdd,Nat.not_lt_zero,hv1,ha1,hi1,hy]; with_reducible refine And.intro ?_ hZ; first | exact rfl | decide) : p := e
theorem F_fc34_2neg {p : Prop} (e : p := by simp -implicitDefEqProofs (disch := first | omega | (simp only [go_sem,lA,lD,lT,hw1,hvl,hal] <;> omega) | decide) only [go_sem,↓reduceIte,Nat.reduceEqDiff,reduceCtorEq]; all_goals (rfl)) : p := e
theorem fc34_2neg {gl : Nat → C} {M : Nat} {pu : Nat → List C → Option C} (hcx : CxOK (cxP gl M pu)) (w : Wrk) (v : Nat) (a : Nat) (i : Int) (hv : v < w.length) (ha : a < (gt w v).length) (hi : i < 0) (hw : WB w) : FC Tryd.prog gl 34 [.agg [sl vC .no w],.agg [.val (nI v),.val (nI a),.val (.int .i64 i)]] [] (.tup [.agg (pC default),.val (.bool false)]) [] := by
 replace hcx := hcx.reN (M := 67)
 refine FC.ofA (cx := cxP gl 67 pu) (rs := [.cell 4 37,.tmp 5]) rfl Tryd.func34 rfl rfl rfl (by simp only [List.length_cons,List.length_nil]; decide) (by simp only [go_sem]) ?_
 simp only [ini,go_sem]
 have hy := True.intro
 have hw1 := hw.1
 have hvl := True.intro
 have hal := True.intro
 have hv1 : (w.length ≤ v) = False := eq_false (by omega)
 have hvl := hw.2.1 v hv
 have ha1 : ((gt w v).length ≤ a) = False := eq_false (by omega)
 have hal := hw.2.2 v a hv ha
 have hi1 : (i < ((0 : Nat) : Int)) = True := eq_true hi
 refine Tr.w hcx [] _ [none,none,none] rfl rfl rfl ?_ X_fc34_2neg
 refine Tr.seqK fun K1 hK1 => ?_
 refine Tr.w hcx [] [some 7,some 8,some 9,some 10,some 11,some 12,some 13,some 14,some 15,some 16,some 17] [] rfl rfl rfl ?_ X_fc34_2neg
 refine Tr.cF rfl ?_
 refine Tr.skip ?_
 refine hK1 _ ?_
 refine Tr.w hcx [] _ [none] rfl rfl rfl ?_ X_fc34_2neg
 refine Tr.k [3,4,6] ?_
 refine Tr.seqK fun K2 hK2 => ?_
 refine Tr.wD hcx hMO [] [some 25,some 26,some 27,some 28,some 29,some 30,some 31,some 32,some 33,some 34,some 35,some 36,some 37,some 38,some 39,some 40,some 41,some 42,some 43,some 44,some 45,some 46,some 47,some 48,some 49,some 50,some 51,some 52,some 53] [] rfl rfl rfl rfl ?_ Y_fc34_2neg
 refine Tr.k [3,4,6,53] ?_
 refine Tr.cT rfl ?_
 refine Tr.w hcx [] _ [] rfl rfl rfl ?_ X_fc34_2neg
 refine Tr.bxc 2 6 (sl iD .no []) [.val (nI 0),.val (nI 0),.val (nI 0),.val (nI 0),.val (nI 0),.val (str []),.val (.slice none 0 0)] (by simp only [go_sem]) rfl (CLe.nil _) rfl ?_
 simp only [List.set_cons_succ,List.set_cons_zero,exP0]
 exact Tr.ret F_fc34_2neg
theorem X_fc34_2big {p : Prop} (e : p := by intro KZ hZ; simp -implicitDefEqProofs (maxSteps := 2000000) (disch := first | omega | (simp only [go_sem,lA,lD,lT,hw1,hvl,hal] <;> omega) | decide) only [go_sem,↓reduceIte,Nat.reduceEqDiff,reduceCtorEq,Nat.reduceLT,Nat.reduceBEq,Nat.reduceAdd,Nat.not_lt_zero,hv1,ha1,hi1,hy]; with_reducible exact hZ) : p := e
theorem Y_fc34_2big {p : Prop} (e : p := by intro KZ hZ; simp -implicitDefEqProofs (maxSteps := 2000000) (disch := first | omega | (simp only [go_sem,lA,lD,lT,hw1,hvl,hal] <;> omega) | decide) only [go_sem,↓reduceIte,Nat.reduceEqDiff,reduceCtorEq,Nat.reduceLT,Nat.reduceBEq,Nat.reduceAdd,Nat.not_lt_zero,hv1,ha1,hi1,hy]; with_reducible refine And.intro ?_ hZ; first | exact rfl | decide) : p := e
theorem F_fc34_2big {p : Prop} (e : p := by simp -implicitDefEqProofs (disch := first | omega | (simp only [go_sem,lA,lD,lT,hw1,hvl,hal] <;> omega) | decide) only [go_sem,↓reduceIte,Nat.reduceEqDiff,reduceCtorEq]; all_goals (rfl)) : p := e
theorem fc34_2big {gl : Nat → C} {M : Nat} {pu : Nat → List C → Option C} (hcx : CxOK (cxP gl M pu)) (w : Wrk) (v : Nat) (a : Nat) (i : Nat) (hv : v < w.length) (ha : a < (gt w v).length) (hi : (gt (gt w v) a).2.length ≤ i) (hw : WB w) : FC Tryd.prog gl 34 [.agg [sl vC .no w],.agg [.val (nI v),.val (nI a),.val (nI i)]] [] (.tup [.agg (pC default),.val (.bool false)]) [] := by
 replace hcx := hcx.reN (M := 67)
 refine FC.ofA (cx := cxP gl 67 pu) (rs := [.cell 4 37,.tmp 5]) rfl Tryd.func34 rfl rfl rfl (by simp only [List.length_cons,List.length_nil]; decide) (by simp only [go_sem]) ?_
 simp only [ini,go_sem]
 have hy := True.intro
 have hw1 := hw.1
 have hvl := True.intro
 have hal := True.intro
 have hv1 : (w.length ≤ v) = False := eq_false (by omega)
 have hvl := hw.2.1 v hv
 have ha1 : ((gt w v).length ≤ a) = False := eq_false (by omega)
 have hal := hw.2.2 v a hv ha
 have hi1 : ((gt (gt w v) a).2.length ≤ i) = True := eq_true hi
 refine Tr.w hcx [] _ [none,none,none] rfl rfl rfl ?_ X_fc34_2big
 refine Tr.seqK fun K1 hK1 => ?_
 refine Tr.w hcx [] [some 7,some 8,some 9,some 10,some 11,some 12,some 13,some 14,some 15,some 16,some 17] [] rfl rfl rfl ?_ X_fc34_2big
 refine Tr.cF rfl ?_
 refine Tr.skip ?_
 refine hK1 _ ?_
 refine Tr.w hcx [] _ [none] rfl rfl rfl ?_ X_fc34_2big
 refine Tr.k [3,4,6] ?_
 refine Tr.seqK fun K2 hK2 => ?_
 refine Tr.wD hcx hMO [] [some 25,some 26,some 27,some 28,some 29,some 30,some 31,some 32,some 33,some 34,some 35,some 36,some 37,some 38,some 39,some 40,some 41,some 42,some 43,some 44,some 45,some 46,some 47,some 48,some 49,some 50,some 51,some 52,some 53] [] rfl rfl rfl rfl ?_ Y_fc34_2big
 refine Tr.k [3,4,6,53] ?_
 refine Tr.cT rfl ?_
 refine Tr.w hcx [] _ [] rfl rfl rfl ?_ X_fc34_2big
 refine Tr.bxc 2 6 (sl iD .no []) [.val (nI 0),.val (nI 0),.val (nI 0),.val (nI 0),.val (nI 0),.val (str []),.val (.slice none 0 0)] (by simp only [go_sem]) rfl (CLe.nil _) rfl ?_
 simp only [List.set_cons_succ,List.set_cons_zero,exP0]
 exact Tr.ret F_fc34_2big
end Go.Sx
namespace Go.Sx
open Go.RowKit Go.Proofs
set_option maxRecDepth 100000
theorem eq_spot (op : BinOp) (a b : ID) : binPlan Tryd.prog op 60 (.agg (iD a)) (.agg (iD b)) = eqR op (decide (a = b)) := by
  have hg : Tryd.prog.eqGuardType Tryd.prog.depth 60 = false := by kernel_rfl
  have hs : Tryd.prog.stoodInHeld 60 = false := by kernel_rfl
  have hi : ∀ x y : Int,eqC Tryd.prog 8 3 (.val (.int .i64 x)) (.val (.int .i64 y)) = some (decide (x = y)) := fun x y => eqC_int Tryd.prog 7 td3 x y
  have he : eqC Tryd.prog 9 60 (.agg (iD a)) (.agg (iD b)) = some (decide (a = b)) := by
    obtain ⟨a1,a2,a3⟩ := a
    obtain ⟨b1,b2,b3⟩ := b
    unfold eqC
    rw [td60]
    simp only [hs,C.agg?,iD,eqFs,td3]
    have g : ∀ (xs : List C) (o : Nat),getAt ⟨.int .i64,1,8,[.int .i64 0]⟩ xs o = rdc xs o := fun _ _ => rfl
    have r0 : ∀ a b c : Value,rdc [.val a,.val b,.val c] 0 = some (.val a) := fun _ _ _ => rfl
    have r1 : ∀ a b c : Value,rdc [.val a,.val b,.val c] 1 = some (.val b) := fun _ _ _ => rfl
    have r2 : ∀ a b c : Value,rdc [.val a,.val b,.val c] 2 = some (.val c) := fun _ _ _ => rfl
    rw [if_neg (by decide)]
    simp only [g,r0,r1,r2,hi,ne_eq,String.reduceEq,not_false_eq_true,if_true]
    by_cases e1 : a1 = b1 <;> by_cases e2 : a2 = b2 <;> by_cases e3 : a3 = b3 <;> simp [e1,e2,e3]
  show eqPlan Tryd.prog op 60 _ _ = _
  unfold eqPlan
  rw [if_pos ⟨.inl ⟨rfl,rfl⟩,hg⟩]
  unfold eqR
  cases op <;> simp [he,vp,Plan.pure]
theorem eq_sp3 (op : BinOp) (a b c : Nat) : binPlan Tryd.prog op 60 (.agg [.val (nI a),.val (nI b),.val (nI c)]) (.agg [.val (nI a),.val (nI b),.val (nI c)]) = eqR op true := by
  have := eq_spot op ((a : Int),(b : Int),(c : Int)) ((a : Int),(b : Int),(c : Int))
  rw [decide_eq_true rfl] at this
  exact this
def atW (w : Wrk) (s : ID) : Psg × Bool :=
  if 0 ≤ s.1 ∧ s.1 < w.length ∧ 0 ≤ s.2.1 ∧ s.2.1 < (gt w s.1.toNat).length ∧ 0 ≤ s.2.2 ∧ s.2.2 < (gt (gt w s.1.toNat) s.2.1.toNat).2.length then (gt (gt (gt w s.1.toNat) s.2.1.toNat).2 s.2.2.toNat,true) else (default,false)
theorem atW_cases (w : Wrk) (s : ID) (P : ID → Prop)
    (g : ∀ v a i : Nat,v < w.length → a < (gt w v).length → i < (gt (gt w v) a).2.length → atW w ((v : Int),(a : Int),(i : Int)) = (gt (gt (gt w v) a).2 i,true) → P ((v : Int),(a : Int),(i : Int)))
    (n0 : ∀ v a i : Int,v < 0 → atW w (v,a,i) = (default,false) → P (v,a,i))
    (b0 : ∀ (v : Nat) (a i : Int),w.length ≤ v → atW w ((v : Int),a,i) = (default,false) → P ((v : Int),a,i))
    (n1 : ∀ (v : Nat) (a i : Int),v < w.length → a < 0 → atW w ((v : Int),a,i) = (default,false) → P ((v : Int),a,i))
    (b1 : ∀ (v a : Nat) (i : Int),v < w.length → (gt w v).length ≤ a → atW w ((v : Int),(a : Int),i) = (default,false) → P ((v : Int),(a : Int),i))
    (n2 : ∀ (v a : Nat) (i : Int),v < w.length → a < (gt w v).length → i < 0 → atW w ((v : Int),(a : Int),i) = (default,false) → P ((v : Int),(a : Int),i))
    (b2 : ∀ (v a i : Nat),v < w.length → a < (gt w v).length → (gt (gt w v) a).2.length ≤ i → atW w ((v : Int),(a : Int),(i : Int)) = (default,false) → P ((v : Int),(a : Int),(i : Int))) : P s := by
  obtain ⟨v,a,i⟩ := s
  by_cases h0 : v < 0
  · exact n0 v a i h0 (if_neg fun h => by have := h.1; dsimp only at this; omega)
  obtain ⟨v,rfl⟩ : ∃ n : Nat,v = (n : Int) := ⟨v.toNat,by omega⟩
  by_cases h1 : w.length ≤ v
  · exact b0 v a i h1 (if_neg fun h => by have := h.2.1; dsimp only at this; omega)
  have hv : v < w.length := by omega
  by_cases h2 : a < 0
  · exact n1 v a i hv h2 (if_neg fun h => by have := h.2.2.1; dsimp only at this; omega)
  obtain ⟨a,rfl⟩ : ∃ n : Nat,a = (n : Int) := ⟨a.toNat,by omega⟩
  by_cases h3 : (gt w v).length ≤ a
  · exact b1 v a i hv h3 (if_neg fun h => by have := h.2.2.2.1; simp only [Int.toNat_natCast] at this; omega)
  have ha : a < (gt w v).length := by omega
  by_cases h4 : i < 0
  · exact n2 v a i hv ha h4 (if_neg fun h => by have := h.2.2.2.2.1; dsimp only at this; omega)
  obtain ⟨i,rfl⟩ : ∃ n : Nat,i = (n : Int) := ⟨i.toNat,by omega⟩
  by_cases h5 : (gt (gt w v) a).2.length ≤ i
  · exact b2 v a i hv ha h5 (if_neg fun h => by have := h.2.2.2.2.2; simp only [Int.toNat_natCast] at this; omega)
  have hi : i < (gt (gt w v) a).2.length := by omega
  refine g v a i hv ha hi ?_
  unfold atW
  simp only [Int.toNat_natCast]
  rw [if_pos ⟨by omega,by omega,by omega,by omega,by omega,by omega⟩]
section
variable {gl : Nat → C} {M : Nat} {pu : Nat → List C → Option C}
theorem fc35 (hcx : CxOK (cxP gl M pu)) (w : Wrk) (s : ID) (hw : WB w) : FC Tryd.prog gl 35 [.agg [sl vC .no w],.agg (iD s)] [] (.tup [.agg (pC (atW w s).1),.val (.bool (atW w s).2)]) [] :=
  atW_cases w s (fun s => FC Tryd.prog gl 35 [.agg [sl vC .no w],.agg (iD s)] [] (.tup [.agg (pC (atW w s).1),.val (.bool (atW w s).2)]) [])
    (fun v a i hv ha hi e => by rw [e]; exact fc35g hcx w v a i hv ha hi hw)
    (fun v a i h e => by rw [e]; exact fc35_0neg hcx w v a i h hw)
    (fun v a i h e => by rw [e]; exact fc35_0big hcx w v a i h hw)
    (fun v a i hv h e => by rw [e]; exact fc35_1neg hcx w v a i hv h hw)
    (fun v a i hv h e => by rw [e]; exact fc35_1big hcx w v a i hv h hw)
    (fun v a i hv ha h e => by rw [e]; exact fc35_2neg hcx w v a i hv ha h hw)
    (fun v a i hv ha h e => by rw [e]; exact fc35_2big hcx w v a i hv ha h hw)
theorem fc34 (hcx : CxOK (cxP gl M pu)) (h68 : ∀ p : Psg,p.2.2.2.2.length ≤ 1000000 → pu 68 [.agg (pC p)] = some (.agg (pC p))) (w : Wrk) (s : ID) (hw : WG w) : FC Tryd.prog gl 34 [.agg [sl vC .no w],.agg (iD s)] [] (.tup [.agg (pC (atW w s).1),.val (.bool (atW w s).2)]) [] :=
  atW_cases w s (fun s => FC Tryd.prog gl 34 [.agg [sl vC .no w],.agg (iD s)] [] (.tup [.agg (pC (atW w s).1),.val (.bool (atW w s).2)]) [])
    (fun v a i hv ha hi e => by rw [e]; exact fc34g hcx h68 w v a i hv ha hi ((hw.v _ (gt_mem' w v hv)).2 _ (gt_mem' _ a ha) |>.2.2 _ (gt_mem' _ i hi)).2.1 hw.wb)
    (fun v a i h e => by rw [e]; exact fc34_0neg hcx w v a i h hw.wb)
    (fun v a i h e => by rw [e]; exact fc34_0big hcx w v a i h hw.wb)
    (fun v a i hv h e => by rw [e]; exact fc34_1neg hcx w v a i hv h hw.wb)
    (fun v a i hv h e => by rw [e]; exact fc34_1big hcx w v a i hv h hw.wb)
    (fun v a i hv ha h e => by rw [e]; exact fc34_2neg hcx w v a i hv ha h hw.wb)
    (fun v a i hv ha h e => by rw [e]; exact fc34_2big hcx w v a i hv ha h hw.wb)
end
theorem atW_refs {w : Wrk} (hw : WG w) (s : ID) : (atW w s).1.2.2.2.2.length ≤ 1000000 := by
  refine atW_cases w s (fun s => (atW w s).1.2.2.2.2.length ≤ 1000000) (fun v a i hv ha hi e => ?_) (fun v a i h e => ?_) (fun v a i h e => ?_) (fun v a i hv h e => ?_) (fun v a i hv h e => ?_) (fun v a i hv ha h e => ?_) (fun v a i hv ha h e => ?_)
  all_goals rw [e]
  · exact ((hw.v _ (gt_mem' w v hv)).2 _ (gt_mem' _ a ha) |>.2.2 _ (gt_mem' _ i hi)).2.1
  all_goals exact Nat.zero_le _
theorem wg_nil : WG [] := ⟨Nat.zero_le _,Nat.zero_le _,Nat.zero_le _,fun V hV => by cases hV⟩
attribute [local irreducible] spW wkW in
theorem works_wg (l : List Int) (how y : Int) (hho : -9223372036854775808 ≤ how ∧ how ≤ 9223372036854775807) (hy0 : -9223372036854775808 ≤ y ∧ y ≤ 9223372036854775807) (i : Nat) (hi : i < (worksW l how y).length) : WG (gt (worksW l how y) i) := by
  have z1 := spW_wz (wkW_wz l) how y hy0
  have z2 := spW_wz z1 y how hho
  match i,hi with
  | 0,_ => exact (wkW_wz l).wg (by omega)
  | 1,_ => exact z1.wg (by omega)
  | 2,_ => exact z2.wg (by omega)
  | 3,_ => exact wg_nil
  | i + 4,h => exact absurd h (by simp [worksW])
def spots (s : ID) (a b c : Int) : List ID := [s,(a,b,c),(((0 : Nat) : Int),((0 : Nat) : Int),((0 : Nat) : Int))]
theorem bsA_sp3 (u : TypeDesc) (y : Nat) (s : ID) (a b c : Int) : bsA (some ⟨u,3,y,[nI 0,nI 0,nI 0]⟩) 3 [(0,.agg (iD s)),(1,.agg [.val (.int .i64 a),.val (.int .i64 b),.val (.int .i64 c)]),(2,.agg [.val (nI 0),.val (nI 0),.val (nI 0)])] = some (vp (sl iD .full (spots s a b c))) := rfl
theorem spots_ln (s : ID) (a b c : Int) : (spots s a b c).length = 3 := rfl
theorem works_ln (l : List Int) (how y : Int) : (worksW l how y).length = 4 := rfl
attribute [go_sem] bsA_sp3 eq_sp3
end Go.Sx
