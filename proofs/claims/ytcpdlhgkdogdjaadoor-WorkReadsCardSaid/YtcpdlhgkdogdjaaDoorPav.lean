/-
   And what follows.
-/
import Derived.Test.YtcpdlhgkdogdjaaDoorPat
import Derived.Test.YtcpdlhgkdogdjaaDoorPau
import Derived.Test.YtcpdlhgkdogdjaaDoorPar
import Derived.Test.YtcpdlhgkdogdjaaDoorPap
set_option linter.unusedSimpArgs false
set_option linter.unusedVariables false
namespace Go.Sx
open Go.RowKit Go.Proofs
theorem fnd_rng {w : Wrk} {k : Nat} (h : k < (alW w).length) : ∃ v a j,fnd w (gt (alW w) k).1 = ((v,a,j),true) ∧ v < w.length ∧ a < (gt w v).length ∧ j < (gt (gt w v) a).2.length := by
  rw [alW_len] at h
  have hm : gt (rdW w) k ∈ rdW w := gt_mem' _ _ h
  rw [alW_gt w k h]
  unfold fnd
  cases hf : (rdW w).find? (fun r => decide (r.2.1 = (gt (rdW w) k).2.1)) with
  | none =>
    have := List.find?_eq_none.1 hf _ hm
    simp at this
  | some r =>
    have hr := List.mem_of_find?_eq_some hf
    unfold rdW at hr
    rw [List.mem_flatMap] at hr
    obtain ⟨v,hv,hr⟩ := hr
    unfold rdV at hr
    rw [List.mem_flatMap] at hr
    obtain ⟨a,ha,hr⟩ := hr
    unfold rdA at hr
    rw [List.mem_map] at hr
    obtain ⟨j,hj,rfl⟩ := hr
    exact ⟨v,a,j,rfl,List.mem_range.1 hv,List.mem_range.1 ha,List.mem_range.1 hj⟩
theorem bks_set (r : Nat → Nat) (x : C) : ∀ (l : List C) (i : Nat),bkCs r (l.set i x) = (bkCs r l).set i (bkC r x)
  | [],_ => by simp only [List.set_nil,bkCs]
  | y :: l,0 => by simp only [List.set_cons_zero,bkCs]
  | y :: l,i + 1 => by simp only [List.set_cons_succ,bkCs,bks_set r x l i]
theorem bk_fV (n v m : Nat) (w : Wrk) : bkCs (n + ·) (fV 0 v m w) = fV n v m w := by unfold fV; rw [bks_set,bks_cl]; rfl
theorem bk_fA (n a m : Nat) (V : Vol) : bkCs (n + ·) (fA 0 a m V) = fA n a m V := by unfold fA; rw [bks_set,bks_cl]; rfl
def xR3 (w : Wrk) (v a : Nat) : Hp := [some (fV 0 v (gt w v).length w),some (fA 0 a (gt (gt w v) a).2.length (gt w v)),some (cl pC (gt (gt w v) a).2)]
section
variable {gl : Nat → C} {pu : Nat → List C → Option C}
noncomputable def puS (pu : Nat → List C → Option C) : Nat → List C → Option C := fun f xs => if (f = 19 ∨ f = 21 ∨ f = 33) ∧ noRefs 0 xs = true then pu f xs else none
theorem puS_ok {M : Nat} (hcx : CxOK (cxP gl M pu)) : CxOK (cxP gl M (puS pu)) := by
  refine ⟨hcx.glo,fun f xs c hc h => ?_,(fun _ _ _ _ _ h => by cases h),hcx.km⟩
  have hc : puS pu f xs = some c := hc
  unfold puS at hc
  split at hc
  · exact hcx.pu f xs c hc h
  · cases hc
theorem noRefs_setF (k : Nat) (x : C) (hx : noRef k x = false) : ∀ (l : List C) (i : Nat),i < l.length → noRefs k (l.set i x) = false
  | y :: l,0,_ => by simp only [List.set_cons_zero,noRefs,hx,Bool.false_and]
  | y :: l,i + 1,h => by simp only [List.set_cons_succ,noRefs,noRefs_setF k x hx l i (by simpa using h),Bool.and_false]
theorem nr_xF0 {w : Wrk} {v a : Nat} (hv : v < w.length) (ha : a < (gt w v).length) (k : Nat) (xs : List C) : noRefs 0 (.agg [xF w v a k] :: xs) = false := by
  have h1 : noRefs 0 (xA (gt w v) a k) = false := noRefs_setF 0 (.gv 0 k (7,37)) rfl _ _ (by rw [cl_len (f := aC)]; omega)
  have h2 : noRefs 0 (xV w v a k) = false := noRefs_setF 0 (.sl .no (gt w v).length (xA (gt w v) a k)) h1 _ _ (by rw [cl_len (f := vC)]; omega)
  show ((noRefs 0 (xV w v a k) && true) && noRefs 0 xs) = false
  rw [h2]; rfl
theorem puS_33 {w : Wrk} {v a : Nat} (hv : v < w.length) (ha : a < (gt w v).length) (xs : List C) (k : Nat) : puS pu 33 (.agg [xF w v a k] :: xs) = none := if_neg fun e => by rw [nr_xF0 hv ha] at e; exact Bool.false_ne_true e.2
theorem puS_none (f : Nat) (h : ¬ (f = 19 ∨ f = 21 ∨ f = 33)) (xs : List C) : puS pu f xs = none := if_neg fun e => h e.1
theorem puS_hit {f : Nat} {xs : List C} (h : f = 19 ∨ f = 21 ∨ f = 33) (hn : noRefs 0 xs = true) : puS pu f xs = pu f xs := if_pos ⟨h,hn⟩
noncomputable def mk20 {M : Nat} (hcx : CxOK (cxP gl M pu)) (w : Wrk) (v a : Nat) (hw : WG w) : Mk Tryd.prog gl 20 Unit where
  args _ := [.agg [sl vC .no w]]
  r _ := .agg [.gv 0 w.length (1,46)]
  Y _ := xR3 w v a ++ [some [.gv 0 w.length (1,46)]]
  nr _ := by simp only [noRefs,noRef,noRef_sl,Bool.and_self]
  inj _ _ _ := ⟨rfl,rfl⟩
  fc _ := fc20f hcx w v a hw
theorem mk20_look {M : Nat} (hcx : CxOK (cxP gl M pu)) (w : Wrk) (v a : Nat) (hw : WG w) (hp : Nat → List C → Hp → Option (C × Hp)) : ∀ pre : Hp,OkH pre → (mk20 hcx w v a hw).tab hp 20 [.agg [sl vC .no w]] pre = some (.agg [.gv pre.length w.length (1,46)],pre ++ [some (fV pre.length v (gt w v).length w),some (fA pre.length a (gt (gt w v) a).2.length (gt w v)),some (cl pC (gt (gt w v) a).2),some [.gv pre.length w.length (1,46)]]) := fun pre h => by
  have e := (mk20 hcx w v a hw).look hp () pre h
  have e1 : shH pre.length ((mk20 hcx w v a hw).Y ()) = [some (fV pre.length v (gt w v).length w),some (fA pre.length a (gt (gt w v) a).2.length (gt w v)),some (cl pC (gt (gt w v) a).2),some [.gv pre.length w.length (1,46)]] := by
    show [some (bkCs _ (fV 0 v (gt w v).length w)),some (bkCs _ (fA 0 a (gt (gt w v) a).2.length (gt w v))),some (bkCs _ (cl pC (gt (gt w v) a).2)),some [C.gv (pre.length + 0) w.length (1,46)]] = _
    rw [bk_fV,bk_fA,bks_cl]
    rfl
  rw [e1] at e
  exact e
theorem live3 (w : Wrk) (v a : Nat) : ∀ o ∈ xR3 w v a,((liveC o).isSome || (mpL o).isSome) = true := by
  intro o ho
  simp only [xR3,List.mem_cons,List.not_mem_nil,or_false] at ho
  rcases ho with rfl | rfl | rfl
  · rw [live_fV]; rfl
  · rw [live_fA]; rfl
  · rw [live_cl]; rfl
theorem ok14 {M N : Nat} {hp : Nat → List C → Hp → Option (C × Hp)} (hcx : CxOK (cxP gl N pu)) (hc : CxOK (cxR gl N pu hp)) (w : Wrk) (v a : Nat) (hw : WG w) : CxOK (cxR gl M pu (hpS hp 14 [.agg [.gv 0 w.length (1,46)]] (xR3 w v a) (sl pC (.own 7) (alW w),xR3 w v a))) :=
  CxOK.oneS hc (fc14b hcx w v a hw) rfl (live3 w v a) rfl (row3_nr _ _ _ 3 (by decide)) (noRef_sl pC 3 (.own 7) (alW w)) (row3_nr _ _ _ 3 (by decide))
theorem ok20 {M N : Nat} {hp : Nat → List C → Hp → Option (C × Hp)} (hcx : CxOK (cxP gl N pu)) (hc : CxOK (cxR gl N pu hp)) (w : Wrk) (v a : Nat) (hw : WG w) : CxOK (cxR gl M pu ((mk20 hcx w v a hw).tab hp)) := CxOK.mk1 hc (mk20 hcx w v a hw)
theorem cxR0 {M : Nat} (hcx : CxOK (cxP gl M pu)) : CxOK (cxR gl M pu (fun _ _ _ => none)) := cxM_of hcx
theorem fc51 {M : Nat} (hcx : CxOK (cxP gl M pu))
    (h19 : ∀ (n : Int) (m : Nat),-9223372036854775808 ≤ n ∧ n ≤ 9223372036854775807 ∧ 0 < m ∧ m ≤ 9223372036854775807 → pu 19 [.val (.int .i64 n),.val (nI m)] = some (.val (nI (aroundI n m))))
    (h21 : ∀ (l : List Int) (k : Nat) (id : ID),LI l → k ≤ 900 → pu 21 [sl iC .no l,.val (nI k),.agg (iD id)] = some (.agg (pC (oneP l k id))))
    (h33 : ∀ (w : Wrk) (id : ID),WB w → pu 33 [.agg [sl vC .no w],.agg (iD id)] = some (.tup [.agg [.val (nI (fnd w id).1.1),.val (nI (fnd w id).1.2.1),.val (nI (fnd w id).1.2.2)],.val (.bool (fnd w id).2)]))
    (w : Wrk) (how y : Int) (hw : WG w) (hho : -9223372036854775808 ≤ how ∧ how ≤ 9223372036854775807) (hy0 : -9223372036854775808 ≤ y ∧ y ≤ 9223372036854775807) :
    FC Tryd.prog gl 51 [.agg [sl vC .no w],.val (.int .i64 how),.val (.int .i64 y)] [] (.agg [sl vC .no (spW w how y)]) [] := by
  have hcS := puS_ok hcx
  have n0 := fun f h xs => puS_none (pu := pu) f h xs
  have h19' : ∀ (n : Int) (m : Nat),-9223372036854775808 ≤ n ∧ n ≤ 9223372036854775807 ∧ 0 < m ∧ m ≤ 9223372036854775807 → puS pu 19 [.val (.int .i64 n),.val (nI m)] = some (.val (nI (aroundI n m))) := fun n m h => (puS_hit (.inl rfl) rfl).trans (h19 n m h)
  have h21' : ∀ (l : List Int) (k : Nat) (id : ID),LI l → k ≤ 900 → puS pu 21 [sl iC .no l,.val (nI k),.agg (iD id)] = some (.agg (pC (oneP l k id))) := fun l k id h1 h2 => (puS_hit (.inr (.inl rfl)) (by simp only [noRefs,noRef_sl,Bool.true_and]; rfl)).trans (h21 l k id h1 h2)
  have h33' : ∀ (w : Wrk) (id : ID),WB w → puS pu 33 [.agg [sl vC .no w],.agg (iD id)] = some (.tup [.agg [.val (nI (fnd w id).1.1),.val (nI (fnd w id).1.2.1),.val (nI (fnd w id).1.2.2)],.val (.bool (fnd w id).2)]) := fun w id h => (puS_hit (.inr (.inr rfl)) (by
    show (noRefs 0 [sl vC .no w] && (noRefs 0 (iD id) && true)) = true
    have e : noRefs 0 [sl vC .no w] = true := by simp only [noRefs,noRef_sl,Bool.and_self]
    rw [e]; rfl)).trans (h33 w id h)
  by_cases hA : 0 < (alW w).length ∧ aroundI how 2 = 0
  · obtain ⟨v,a,j,hf,hv,ha,hj⟩ := fnd_rng (around_lt y hA.1)
    have hx1 : ∀ o ∈ [some (cl pC (gt (gt w v) a).2)],((liveC o).isSome || (mpL o).isSome) = true := fun o ho => by
      obtain rfl := List.mem_singleton.1 ho
      rw [live_cl]; rfl
    have hna : ∀ xs : List C,noRefs 1 xs = true → noRefs 1 (.agg [xF w v a (gt (gt w v) a).2.length] :: xs) = true := fun xs h => by
      show (noRef 1 (.agg [xF w v a (gt (gt w v) a).2.length]) && noRefs 1 xs) = true
      rw [nr_xF,h]; rfl
    have k35 := CxOK.oneS (M := 120) (az := [.agg [xF w v a (gt (gt w v) a).2.length],.agg [.val (nI v),.val (nI a),.val (nI j)]]) (X := [some (cl pC (gt (gt w v) a).2)]) (r := (.tup [.agg (pC (gt (gt (gt w v) a).2 j)),.val (.bool true)],[some (cl pC (gt (gt w v) a).2)])) (cxR0 (M := M) hcS) (fc35c hcS w v a j hv ha hj hw) rfl hx1 (hna _ rfl) (row1_nr _ 1) (by
      show (noRefs 1 (pC (gt (gt (gt w v) a).2 j)) && (true && true)) = true
      rw [noRefs_f]; rfl) (row1_nr _ 1)
    have f92 := fc92c k35 w v a j (how.tdiv ((2 : Nat) : Int)) (y.tdiv ((8 : Nat) : Int)) hv ha hj hw (tdiv_rng how 2 hho) (tdiv_rng y 8 hy0) (n0 35 (by decide)) (fun suf hs => hpS_hit _ _ _ _ _ suf hs) h19'
    have k92 := CxOK.oneS (M := M) (az := [.agg [xF w v a (gt (gt w v) a).2.length],.agg [.val (nI v),.val (nI a),.val (nI j)],.val (.int .i64 (how.tdiv ((2 : Nat) : Int))),.val (.int .i64 (y.tdiv ((8 : Nat) : Int)))]) (X := [some (cl pC (gt (gt w v) a).2)]) (r := (.agg [xF w v a (gt (gt w v) a).2.length],[some (cl pC ((gt (gt w v) a).2.set j (chgP (gt (gt (gt w v) a).2 j) (how.tdiv ((2 : Nat) : Int)) (y.tdiv ((8 : Nat) : Int)))))])) (cxR0 (M := M) hcS) f92 rfl hx1 (hna _ rfl) (row1_nr _ 1) (nr_xF ..) (row1_nr _ 1)
    have k14 := ok14 (M := M) hcS k92 w v a hw
    have k20 := ok20 (M := 242) hcS k14 w v a hw
    exact fc51A k20 w how y v a hw hho hy0 j hv ha hj hA.1 hA.2 hf (n0 20 (by decide)) (n0 14 (by decide)) (puS_33 hv ha) (n0 92 (by decide)) (mk20_look hcS w _ _ hw _) (fun suf hs => (Mk.miss _ _ (by decide) _ _).trans (hpS_hit _ _ _ _ _ suf hs)) h33' (fun suf hs => (Mk.miss _ _ (by decide) _ _).trans ((hpS_miss _ _ _ _ (by decide) _ _).trans (hpS_hit _ _ _ _ _ suf hs))) h19'
  · have k14 := ok14 (M := M) hcS (cxR0 hcS) w (aroundI y w.length) (aroundI (y.tdiv ((2 : Nat) : Int)) (max (gt w (aroundI y w.length)).length 1)) hw
    have k20 := ok20 (M := 242) hcS k14 w (aroundI y w.length) (aroundI (y.tdiv ((2 : Nat) : Int)) (max (gt w (aroundI y w.length)).length 1)) hw
    exact fc51N k20 w how y _ _ hw hho hy0 rfl rfl hA (n0 20 (by decide)) (n0 14 (by decide)) (mk20_look hcS w _ _ hw _) (fun suf hs => (Mk.miss _ _ (by decide) _ _).trans (hpS_hit _ _ _ _ _ suf hs)) h19' h21'
end
end Go.Sx
namespace Go.Sx
open Go.RowKit Go.Proofs
def PZ (N : Nat) (p : Psg) : Prop := p.2.2.2.1.length ≤ N ∧ p.2.2.2.2.length ≤ N ∧ IdOk p.1
def AZ (N : Nat) (A : Art) : Prop := A.1.length ≤ N ∧ A.2.length ≤ N ∧ ∀ p,p ∈ A.2 → PZ N p
def alV (V : Vol) : List Psg := V.flatMap (·.2)
structure WZ (N : Nat) (w : Wrk) : Prop where
  n : w.length ≤ N
  al : (w.flatMap alV).length ≤ N
  ar : w.flatten.length ≤ N
  v : ∀ V,V ∈ w → V.length ≤ N ∧ ∀ A,A ∈ V → AZ N A
theorem PZ.mono {N K : Nat} (h : N ≤ K) {p : Psg} (hp : PZ N p) : PZ K p := ⟨Nat.le_trans hp.1 h,Nat.le_trans hp.2.1 h,hp.2.2⟩
theorem AZ.mono {N K : Nat} (h : N ≤ K) {A : Art} (hA : AZ N A) : AZ K A := ⟨Nat.le_trans hA.1 h,Nat.le_trans hA.2.1 h,fun p hp => (hA.2.2 p hp).mono h⟩
theorem fm_set_len {α β : Type} (f : α → List β) (x : α) : ∀ (l : List α) (i : Nat),((l.set i x).flatMap f).length ≤ (l.flatMap f).length + (f x).length
  | [],_ => by simp
  | y :: l,0 => by simp only [List.set_cons_zero,List.flatMap_cons,List.length_append]; omega
  | y :: l,i + 1 => by
    have := fm_set_len f x l i
    simp only [List.set_cons_succ,List.flatMap_cons,List.length_append]; omega
theorem fm_mem_len {α β : Type} (f : α → List β) (x : α) : ∀ (l : List α),x ∈ l → (f x).length ≤ (l.flatMap f).length
  | y :: l,h => by
    simp only [List.flatMap_cons,List.length_append]
    rcases List.mem_cons.1 h with rfl | h
    · omega
    · have := fm_mem_len f x l h; omega
theorem flat_set_len {α : Type} (l : List (List α)) (i : Nat) (x : List α) : (l.set i x).flatten.length ≤ l.flatten.length + x.length := by
  have := fm_set_len (fun y : List α => y) x l i
  simpa [List.flatMap_id'] using this
theorem WZ.set {N : Nat} {w : Wrk} (h : WZ N w) (v : Nat) (V : Vol) (h1 : V.length ≤ 2 * N + 100) (h2 : (alV V).length ≤ 2 * N + 100) (h3 : ∀ A,A ∈ V → AZ (3 * N + 300) A) : WZ (3 * N + 300) (w.set v V) := by
  have q1 := fm_set_len alV V w v
  have q2 := flat_set_len w v V
  have q3 := h.n
  have q4 := h.al
  have q5 := h.ar
  refine ⟨by rw [List.length_set]; omega,by omega,by omega,fun X hX => ?_⟩
  rcases List.mem_or_eq_of_mem_set hX with hX | rfl
  · have := h.v X hX
    exact ⟨by omega,fun A hA => (this.2 A hA).mono (by omega)⟩
  · exact ⟨by omega,h3⟩
theorem WZ.mono {N K : Nat} {w : Wrk} (h : WZ N w) (hk : N ≤ K) : WZ K w :=
  ⟨Nat.le_trans h.n hk,Nat.le_trans h.al hk,Nat.le_trans h.ar hk,fun V hV => ⟨Nat.le_trans (h.v V hV).1 hk,fun A hA => ((h.v V hV).2 A hA).mono hk⟩⟩
theorem WZ.alv {N : Nat} {w : Wrk} (h : WZ N w) {V : Vol} (hV : V ∈ w) : (alV V).length ≤ N := Nat.le_trans (fm_mem_len alV V w hV) h.al
theorem WZ.setL {N : Nat} {w : Wrk} (h : WZ N w) {v a : Nat} (hv : v < w.length) (ha : a < (gt w v).length) (t : List UInt8) (l : List Psg) (ht : t.length ≤ N + 100) (hl : l.length ≤ N + 1) (hp : ∀ p,p ∈ l → PZ (N + 100) p) : WZ (3 * N + 300) (w.set v ((gt w v).set a (t,l))) := by
  have hV := gt_mem' w v hv
  have q1 := (h.v _ hV).1
  have q2 := h.alv hV
  have q3 := fm_set_len (fun A : Art => A.2) (t,l) (gt w v) a
  refine h.set v _ (by rw [List.length_set]; omega) ?_ fun A hA => ?_
  · have : (alV ((gt w v).set a (t,l))).length ≤ (alV (gt w v)).length + l.length := q3
    omega
  · rcases List.mem_or_eq_of_mem_set hA with hA | rfl
    · exact ((h.v _ hV).2 A hA).mono (by omega)
    · exact ⟨by show t.length ≤ _; omega,by show l.length ≤ _; omega,fun p hp' => (hp p hp').mono (by omega)⟩
theorem ch4_i64 {a c : Nat} {y : Int} {i : Nat} (hi : i < 4) (ha : a ≤ 2000) (hc : c ≤ 2000) (hy : -9223372036854775808 ≤ y ∧ y ≤ 9223372036854775807) : I64 (gt (ch4 a c y) i) := by
  match i,hi with
  | 0,_ => exact ⟨by show -9223372036854775808 ≤ (a : Int); omega,by show (a : Int) ≤ 9223372036854775807; omega⟩
  | 1,_ => exact ⟨by show -9223372036854775808 ≤ (-1 : Int); omega,by show (-1 : Int) ≤ 9223372036854775807; omega⟩
  | 2,_ => exact ⟨by show -9223372036854775808 ≤ (c : Int); omega,by show (c : Int) ≤ 9223372036854775807; omega⟩
  | 3,_ => exact hy
theorem nat_i64 {n : Nat} (h : n ≤ 2000) : I64 (n : Int) := ⟨by omega,by omega⟩
theorem txt9_le {i : Nat} : (gt txt9 i).length ≤ 4 := by
  rcases i with _ | _ | _ | _ | _ | _ | _ | _ | _ | i
  all_goals first | decide | exact Nat.zero_le _
theorem tit4_le {i : Nat} : (gt tit4 i).length ≤ 4 := by
  rcases i with _ | _ | _ | _ | i
  all_goals first | decide | exact Nat.zero_le _
theorem chgP_pz {N : Nat} {p : Psg} (h : PZ N p) (how y : Int) (hy : -9223372036854775808 ≤ y ∧ y ≤ 9223372036854775807) : PZ (N + 100) (chgP p how y) := by
  obtain ⟨h1,h2,h3,h4,h5⟩ := h
  have a4 := around_lt y (m := 4) (by decide)
  have a8 := around_lt y (m := 8) (by decide)
  unfold chgP
  generalize aroundI how 10 = n
  rcases n with _ | _ | _ | _ | _ | _ | _ | _ | _ | n
  · exact ⟨by show p.2.2.2.1.length ≤ _; omega,by show p.2.2.2.2.length ≤ _; omega,ch4_i64 a4 (by decide) (by decide) hy,h4,h5⟩
  · exact ⟨by show p.2.2.2.1.length ≤ _; omega,by show p.2.2.2.2.length ≤ _; omega,h3,ch4_i64 a4 (by decide) (by decide) hy,h5⟩
  · exact ⟨by show p.2.2.2.1.length ≤ _; omega,by show p.2.2.2.2.length ≤ _; omega,h3,h4,ch4_i64 a4 (by decide) (by decide) hy⟩
  · exact ⟨by show p.2.2.2.1.length ≤ _; omega,by show p.2.2.2.2.length ≤ _; omega,h3,h4,h5⟩
  · exact ⟨by show p.2.2.2.1.length ≤ _; omega,by show p.2.2.2.2.length ≤ _; omega,h3,h4,h5⟩
  · exact ⟨by show (gt txt9 _).length ≤ _; have := txt9_le (i := aroundI y 9); omega,by show p.2.2.2.2.length ≤ _; omega,h3,h4,h5⟩
  · exact ⟨by show p.2.2.2.1.length ≤ _; omega,by show (p.2.2.2.2 ++ [_]).length ≤ _; rw [List.length_append,List.length_singleton]; omega,h3,h4,h5⟩
  · exact ⟨by show p.2.2.2.1.length ≤ _; omega,by show 1 ≤ _; omega,h3,h4,h5⟩
  · exact ⟨by show p.2.2.2.1.length ≤ _; omega,by show p.2.2.2.2.length ≤ _; omega,nat_i64 (by omega),nat_i64 (by omega),nat_i64 (by omega)⟩
  · exact ⟨by show (p.2.2.2.1 ++ [_,_]).length ≤ _; rw [List.length_append]; show _ + 2 ≤ _; omega,by show p.2.2.2.2.length ≤ _; omega,h3,h4,h5⟩
theorem oneP_pz (l : List Int) (a : Nat) (id : ID) (h : IdOk id) : PZ 100 (oneP l a id) := by
  have h1 := txtP_len l a (oneN l a)
  have h2 := oneN_le l a
  have h3 := refP_len l a (oneN l a)
  exact ⟨by show (txtP l a (oneN l a)).length ≤ _; omega,by show (refP l a (oneN l a)).length ≤ _; omega,h⟩
theorem AZ_nil {N : Nat} : AZ N ([],[]) := ⟨Nat.zero_le _,Nat.zero_le _,fun p hp => by cases hp⟩
theorem alV_rep (n : Nat) (t : List UInt8) : alV (List.replicate n (t,[])) = [] := by
  unfold alV
  induction n with
  | zero => rfl
  | succ n ih => rw [List.replicate_succ,List.flatMap_cons,ih]; rfl
theorem fmV_rep (n : Nat) : (List.replicate n ([] : Vol)).flatMap alV = [] := by
  induction n with
  | zero => rfl
  | succ n ih => rw [List.replicate_succ,List.flatMap_cons,ih]; rfl
theorem flt_repV (n : Nat) : (List.replicate n ([] : Vol)).flatten = [] := by
  induction n with
  | zero => rfl
  | succ n ih => rw [List.replicate_succ,List.flatten_cons,ih]; rfl
theorem spN_wz {N : Nat} {w : Wrk} (h : WZ N w) {v b : Nat} (hv : v < w.length) (hb : b < (gt w v).length) (y : Int) (hy : -9223372036854775808 ≤ y ∧ y ≤ 9223372036854775807) (n : Nat) : WZ (3 * N + 300) (spN w v b y n) := by
  have hV := gt_mem' w v hv
  have hA := gt_mem' _ b hb
  have q1 := (h.v _ hV).1
  have q2 := h.alv hV
  have q3 := (h.v _ hV).2 _ hA
  have hL := q3.2.1
  have ht := q3.1
  have n1 := h.n
  have n2 := h.al
  have n3 := h.ar
  rcases n with _ | _ | _ | _ | _ | _ | _ | n
  · have a9 := around_lt y (m := 9) (by decide)
    refine ⟨?_,?_,?_,fun V hV' => ?_⟩
    · show (w ++ List.replicate _ []).length ≤ _
      rw [List.length_append,List.length_replicate]; omega
    · show ((w ++ List.replicate _ []).flatMap alV).length ≤ _
      rw [List.flatMap_append,fmV_rep,List.append_nil]; omega
    · show (w ++ List.replicate _ []).flatten.length ≤ _
      rw [List.flatten_append,flt_repV,List.append_nil]; omega
    · rcases List.mem_append.1 hV' with hV' | hV'
      · exact ⟨by have := (h.v V hV').1; omega,fun A hA => ((h.v V hV').2 A hA).mono (by omega)⟩
      · rw [List.eq_of_mem_replicate hV']
        exact ⟨Nat.zero_le _,fun A hA => by cases hA⟩
  · exact h.setL hv hb _ _ (by have := tit4_le (i := aroundI (y.tdiv ((4 : Nat) : Int)) 4); omega) (by omega) fun p hp => (q3.2.2 p hp).mono (by omega)
  · refine h.set v _ (by rw [List.length_append,List.length_singleton]; omega) ?_ fun A hA' => ?_
    · show (alV (gt w v ++ [gt (gt w v) b])).length ≤ _
      have : (alV (gt w v ++ [gt (gt w v) b])).length = (alV (gt w v)).length + (gt (gt w v) b).2.length := by
        unfold alV; rw [List.flatMap_append,List.length_append]; simp
      omega
    · rcases List.mem_append.1 hA' with hA' | hA'
      · exact ((h.v _ hV).2 A hA').mono (by omega)
      · rw [List.mem_singleton.1 hA']; exact q3.mono (by omega)
  · show WZ _ (if _ then _ else _)
    split
    · exact h.setL hv hb _ _ (by omega) (by rw [List.length_drop]; omega) fun p hp => (q3.2.2 p (List.mem_of_mem_drop hp)).mono (by omega)
    · exact h.mono (by omega)
  · show WZ _ (if _ then _ else _)
    split
    · rename_i h1
      refine h.setL hv hb _ _ (by omega) (by rw [List.length_set,List.length_set]; omega) fun p hp => ?_
      rcases List.mem_or_eq_of_mem_set hp with hp | rfl
      · rcases List.mem_or_eq_of_mem_set hp with hp | rfl
        · exact (q3.2.2 p hp).mono (by omega)
        · exact (q3.2.2 _ (gt_mem' _ _ (by omega))).mono (by omega)
      · exact (q3.2.2 _ (gt_mem' _ _ (by omega))).mono (by omega)
    · exact h.mono (by omega)
  · have a3 := around_lt (y.tdiv ((4 : Nat) : Int)) (m := 3) (by decide)
    refine h.set v _ (by rw [List.length_append,List.length_replicate]; omega) ?_ fun A hA' => ?_
    · show (alV (gt w v ++ List.replicate _ _)).length ≤ _
      have : ∀ k,(alV (gt w v ++ List.replicate k ([120],[]))).length = (alV (gt w v)).length := fun k => by
        have e := alV_rep k [120]
        unfold alV at e ⊢
        rw [List.flatMap_append,e,List.append_nil]
      rw [this]; omega
    · rcases List.mem_append.1 hA' with hA' | hA'
      · exact ((h.v _ hV).2 A hA').mono (by omega)
      · rw [List.eq_of_mem_replicate hA']
        exact ⟨by show 1 ≤ _; omega,Nat.zero_le _,fun p hp => by cases hp⟩
  · exact h.set v _ (Nat.zero_le _) (Nat.zero_le _) fun A hA => by cases hA
  · refine h.setL hv hb _ _ (by omega) (by rw [List.length_append,List.length_singleton]; omega) fun p hp => ?_
    have a12 := around_lt y (m := 12) (by decide)
    rcases List.mem_append.1 hp with hp | hp
    · exact (q3.2.2 p hp).mono (by omega)
    · rw [List.mem_singleton.1 hp]
      exact (oneP_pz _ _ _ ⟨nat_i64 (n := 0) (by decide),nat_i64 (by omega),nat_i64 (n := 0) (by decide)⟩).mono (by omega)
theorem spW_wz {N : Nat} {w : Wrk} (h : WZ N w) (how y : Int) (hy : -9223372036854775808 ≤ y ∧ y ≤ 9223372036854775807) : WZ (3 * N + 300) (spW w how y) := by
  unfold spW
  split
  · rename_i hA
    obtain ⟨v,a,j,hf,hv,ha,hj⟩ := fnd_rng (around_lt y hA.1)
    rw [hf]
    have q3 := (h.v _ (gt_mem' w v hv)).2 _ (gt_mem' _ a ha)
    have hL := q3.2.1
    have ht := q3.1
    show WZ _ (Go.Sx.setL w v a ((gt (gt w v) a).2.set j (chgP (gt (gt (gt w v) a).2 j) (how.tdiv ((2 : Nat) : Int)) (y.tdiv ((8 : Nat) : Int)))))
    refine h.setL hv ha _ _ (by omega) (by rw [List.length_set]; omega) fun p hp => ?_
    rcases List.mem_or_eq_of_mem_set hp with hp | rfl
    · exact (q3.2.2 p hp).mono (by omega)
    · exact chgP_pz (q3.2.2 _ (gt_mem' _ _ hj)) _ _ (tdiv_rng y 8 hy)
  · split
    · have a10 := around_lt y (m := 10) (by decide)
      refine ⟨by rw [List.length_replicate]; omega,by rw [fmV_rep]; exact Nat.zero_le _,by rw [flt_repV]; exact Nat.zero_le _,fun V hV => ?_⟩
      rw [List.eq_of_mem_replicate hV]
      exact ⟨Nat.zero_le _,fun A hA => by cases hA⟩
    · rename_i h0
      have hv := around_lt y (m := w.length) (by omega)
      split
      · have a66 := around_lt y (m := 66) (by decide)
        refine h.set _ _ (by rw [List.length_replicate]; omega) (by rw [alV_rep]; exact Nat.zero_le _) fun A hA => ?_
        rw [List.eq_of_mem_replicate hA]; exact AZ_nil
      · rename_i h1
        exact spN_wz h hv (by omega) y hy _
theorem alW_fm (w : Wrk) : alW w = w.flatMap alV := alW_fl w
theorem WZ.wg {N : Nat} {w : Wrk} (h : WZ N w) (hN : N ≤ 100000) : WG w := by
  have h1 := h.n
  have h2 := h.al
  have h3 := h.ar
  refine ⟨by omega,by rw [alW_fm]; omega,?_,fun V hV => ⟨by have := (h.v V hV).1; omega,fun A hA => ?_⟩⟩
  · unfold nA; rw [List.take_length]; omega
  · have q := (h.v V hV).2 A hA
    exact ⟨by have := q.1; omega,by have := q.2.1; omega,fun p hp => ⟨by have := (q.2.2 p hp).1; omega,by have := (q.2.2 p hp).2.1; omega,(q.2.2 p hp).2.2⟩⟩
theorem psP_pz (l : List Int) (n : Nat) : ∀ j,n + j ≤ 8 → ∀ p,p ∈ psP l n j → PZ 100 p
  | 0,_,p,hp => by cases hp
  | j + 1,h,p,hp => by
    rw [psP,List.mem_append,List.mem_singleton] at hp
    rcases hp with hp | rfl
    · exact psP_pz l n j (by omega) p hp
    · have := oneP_pz l (9 + 4 * (n + j)) (idk (n + j)) ⟨nat_i64 (n := 0) (by decide),nat_i64 (by omega),nat_i64 (n := 0) (by decide)⟩
      unfold PZ at this ⊢
      rw [psF_1,psF_2]; exact this
theorem arP_az (l : List Int) (i n : Nat) (h : n ≤ 8) : ∀ k,∀ A,A ∈ (arP l i n k).1 → AZ 1000 A
  | 0,A,hA => by cases hA
  | k + 1,A,hA => by
    simp only [arP] at hA
    rw [List.mem_append,List.mem_singleton] at hA
    rcases hA with hA | rfl
    · exact arP_az l i n h k A hA
    · have h1 := arP_le l i n h k
      have h2 : cntP l i k (arP l i n k).2 = min (1 + atI l (5 + 2 * i + k) 3) (8 - (arP l i n k).2) := rfl
      refine ⟨?_,?_,?_⟩
      · have := (textT_ok l (3 + i + k)).2.1; show (textT l (3 + i + k)).length ≤ _; omega
      · show (psP _ _ _).length ≤ _; rw [psP_len]; omega
      · exact fun p hp => (psP_pz l _ _ (by omega) p hp).mono (by decide)
theorem voP_az (l : List Int) : ∀ i,∀ V,V ∈ (voP l i).1 → V.length ≤ 2 ∧ ∀ A,A ∈ V → AZ 1000 A
  | 0,V,hV => by cases hV
  | i + 1,V,hV => by
    simp only [voP] at hV
    rw [List.mem_append,List.mem_singleton] at hV
    rcases hV with hV | rfl
    · exact voP_az l i V hV
    · refine ⟨?_,arP_az l i _ (voP_le l i) _⟩
      rw [arP_len]
      have := atI_lt l (1 + i) (m := 2) (by decide); omega
theorem wkW_wz (l : List Int) : WZ 1000 (wkW l) := by
  have h1 := wkW_len l
  have h2 := atI_lt l 0 (m := 4) (by decide)
  have h3 := wkW_al l
  rw [alW_fm] at h3
  refine ⟨by omega,by omega,?_,fun V hV => ?_⟩
  · have := nA_bnd (w := wkW l) (fun V hV => (voP_pg l _ V hV).1) (wkW l).length (Nat.le_refl _)
    unfold nA at this
    rw [List.take_length] at this
    omega
  · have := voP_az l _ V hV
    exact ⟨by omega,this.2⟩
end Go.Sx
namespace Go.Sx
open Go.RowKit Go.Proofs
theorem CLe.full_cells {n : Nat} {xs xs' : List C} (hl : xs.length = xs'.length) (hc : ∀ (k : Nat) (x x' : C),xs[k]? = some x → xs'[k]? = some x' → CLe x x') : CLe (.sl .full n xs) (.sl .full n xs') := by
  refine ⟨fun G v h => ?_,fun s n' ys e => by cases e⟩
  simp only [Rep] at h ⊢
  obtain ⟨a,cap,h1,h2,h3,h4,h5⟩ := h
  refine ⟨a,cap,h1,h2,h3,h4,?_⟩
  rcases h5 with h5 | ⟨blk,off,h5,h6⟩
  · subst h5
    left
    exact List.eq_nil_of_length_eq_zero (by simpa using hl.symm)
  · right
    refine ⟨blk,off,h5,RepK.of_get fun i x' hx' => ?_⟩
    have hi := (List.getElem?_eq_some_iff.1 hx').1
    obtain ⟨u,q1,q2,q3⟩ := h6.get i _ (List.getElem?_eq_getElem (l := xs) (i := i) (by omega))
    exact ⟨u,q1,q2,(hc i _ _ (List.getElem?_eq_getElem (by omega)) hx').1 _ _ q3⟩
def wkC (w : Wrk) : List C := [sl vC .no w]
instance : Sca wkC (sl vC .no) := ⟨fun _ => rfl,fun _ => rfl,fun _ => rfl,fun _ _ => rfl⟩
instance : Nrf wkC := ⟨fun k x => by simp only [wkC,noRefs,noRef_sl,Bool.and_self]⟩
theorem CLe_works (a b c : Wrk) : CLe (.sl .full 4 [sl vC .no a,sl vC .no b,sl vC .no c,.val (.slice none 0 0)]) (sl wkC .full [a,b,c,[]]) := by
  refine CLe.full_cells (xs := [sl vC .no a,sl vC .no b,sl vC .no c,.val (.slice none 0 0)]) (xs' := cl wkC [a,b,c,[]]) rfl fun k x x' h1 h2 => ?_
  rcases k with _ | _ | _ | _ | k
  · cases h1; cases h2; exact CLe.refl _
  · cases h1; cases h2; exact CLe.refl _
  · cases h1; cases h2; exact CLe.refl _
  · cases h1; cases h2; exact CLe.nil _
  · simp at h1
theorem bsA_w4 (y : Nat) (a b c : Wrk) (u : TypeDesc) : bsA (some ⟨u,1,y,[.slice none 0 0]⟩) 4 [(0,.agg [sl vC .no a]),(1,.agg [sl vC .no b]),(2,.agg [sl vC .no c]),(3,.agg [.val (.slice none 0 0)])] = some (vp (.sl .full 4 [sl vC .no a,sl vC .no b,sl vC .no c,.val (.slice none 0 0)])) := rfl
def worksW (l : List Int) (how y : Int) : List Wrk := [wkW l,spW (wkW l) how y,spW (spW (wkW l) how y) y how,[]]
attribute [go_sem] bsA_w4
end Go.Sx
namespace Go.Sx
open Go.RowKit Go.Proofs
set_option maxRecDepth 100000
set_option maxHeartbeats 8000000
theorem X_fc11 {p : Prop} (e : p := by intro KZ hZ; simp -implicitDefEqProofs (maxSteps := 2000000) (disch := first | omega | (simp only [go_sem,lA,lD,lT] <;> omega) | decide) only [go_sem,↓reduceIte,Nat.reduceEqDiff,reduceCtorEq,Nat.reduceLT,Nat.reduceBEq,Nat.reduceAdd,e18,e51,e51b,hy]; with_reducible exact hZ) : p := e
theorem Y_fc11 {p : Prop} (e : p := by intro KZ hZ; simp -implicitDefEqProofs (maxSteps := 2000000) (disch := first | omega | (simp only [go_sem,lA,lD,lT] <;> omega) | decide) only [go_sem,↓reduceIte,Nat.reduceEqDiff,reduceCtorEq,Nat.reduceLT,Nat.reduceBEq,Nat.reduceAdd,e18,e51,e51b,hy]; with_reducible refine And.intro ?_ hZ; first | exact rfl | decide) : p := e
theorem F_fc11 {p : Prop} (e : p := by simp -implicitDefEqProofs (disch := first | omega | (simp only [go_sem,lA,lD,lT] <;> omega) | decide) only [go_sem,↓reduceIte,Nat.reduceEqDiff,reduceCtorEq]; all_goals (unfold worksW; rw [h0,h1,h2])) : p := e
theorem fc11 {gl : Nat → C} {M : Nat} {pu : Nat → List C → Option C} (hcx : CxOK (cxP gl M pu)) (h18 : ∀ l : List Int,LI l → pu 18 [sl iC .no l] = some (.agg [sl vC .no (wkW l)])) (h51 : ∀ (w : Wrk) (how y : Int),WG w → (-9223372036854775808 ≤ how ∧ how ≤ 9223372036854775807) → (-9223372036854775808 ≤ y ∧ y ≤ 9223372036854775807) → pu 51 [.agg [sl vC .no w],.val (.int .i64 how),.val (.int .i64 y)] = some (.agg [sl vC .no (spW w how y)])) (l : List Int) (how y : Int) (hl : LI l) (hho : (-9223372036854775808 ≤ how ∧ how ≤ 9223372036854775807)) (hy0 : (-9223372036854775808 ≤ y ∧ y ≤ 9223372036854775807)) : FC Tryd.prog gl 11 [sl iC .no l,.val (.int .i64 how),.val (.int .i64 y)] [] (sl wkC .full (worksW l how y)) [] := by
 replace hcx := hcx.reN (M := 23)
 refine FC.ofA (cx := cxP gl 23 pu) (rs := [.tmp 6]) rfl Tryd.func11 rfl rfl rfl (by simp only [List.length_cons,List.length_nil]; decide) (by simp only [go_sem]) ?_
 simp only [ini,go_sem]
 have hy := True.intro
 have e18 := h18 l hl
 have g0 := (wkW_wz l).wg (by decide)
 have z1 := spW_wz (wkW_wz l) how y hy0
 have g1 := z1.wg (by decide)
 have e51 := h51 _ how y g0 hho hy0
 have e51b := h51 _ y how g1 hy0 hho
 obtain ⟨W0,h0⟩ : ∃ W0,wkW l = W0 := ⟨_,rfl⟩
 rw [h0] at e18 e51 e51b
 obtain ⟨W1,h1⟩ : ∃ W1,spW W0 how y = W1 := ⟨_,rfl⟩
 rw [h1] at e51 e51b
 obtain ⟨W2,h2⟩ : ∃ W2,spW W1 y how = W2 := ⟨_,rfl⟩
 rw [h2] at e51b
 refine Tr.w hcx [] _ [] rfl rfl rfl ?_ X_fc11
 refine Tr.w hcx [] _ [none] rfl rfl rfl ?_ X_fc11
 refine Tr.w hcx [] _ [none] rfl rfl rfl ?_ X_fc11
 refine Tr.wD hcx hMO [1000022] _ [] rfl rfl rfl rfl ?_ Y_fc11
 refine Tr.live [(6,sl wkC .full [W0,W1,W2,[]])] ?_ ?_
 exact ⟨CLe_works _ _ _,trivial⟩
 exact Tr.ret F_fc11
end Go.Sx
namespace Go.Sx
open Go.RowKit Go.Proofs
set_option maxRecDepth 100000
set_option maxHeartbeats 8000000
end Go.Sx
namespace Go.Sx
open Go.RowKit Go.Proofs
set_option maxRecDepth 100000
theorem wg_nil : WG [] := ⟨Nat.zero_le _,Nat.zero_le _,Nat.zero_le _,fun V hV => by cases hV⟩
attribute [local irreducible] spW wkW in
theorem works_wg (l : List Int) (how y : Int) (hho : -9223372036854775808 ≤ how ∧ how ≤ 9223372036854775807) (hy0 : -9223372036854775808 ≤ y ∧ y ≤ 9223372036854775807) (i : Nat) (hi : i < (worksW l how y).length) : WG (gt (worksW l how y) i) := by
  have z1 := spW_wz (wkW_wz l) how y hy0
  have z2 := spW_wz z1 y how hho
  match i,hi with
  | 0,_ => exact (wkW_wz l).wg (by omega)
  | 1,_ => exact z1.wg (by omega)
  | 2,_ => exact z2.wg (by omega)
  | 3,_ => exact wg_nil
  | i + 4,h => exact absurd h (by simp [worksW])
theorem works_ln (l : List Int) (how y : Int) : (worksW l how y).length = 4 := rfl
end Go.Sx
namespace Go.Sx
open Go.RowKit Go.Proofs
set_option maxRecDepth 100000
set_option maxHeartbeats 8000000
set_option maxRecDepth 100000
theorem rda_wk (l : List Wrk) (i : Nat) (h : i < l.length) : rda ((cl wkC l).drop i) 0 1 = some (.agg [sl vC .no (gt l i)]) := by
  have e : (cl wkC l).drop i = cl wkC (l.drop i) := by
    have := cl_drop (f := wkC) l i
    rw [Nat.mul_one] at this; exact this
  rw [e,List.drop_eq_getElem_cons h,cl_cons]
  have : gt l i = l[i] := by simp [gt,List.getD,List.getElem?_eq_getElem h]
  rw [this]
  rfl
attribute [go_sem high] rda_wk
end Go.Sx
namespace Go.Sx
open Go.RowKit Go.Proofs
theorem fc51t {gl : Nat → C} {M : Nat} {pu : Nat → List C → Option C} (hcx : CxOK (cxP gl M pu)) (h19 : ∀ (n : Int) (m : Nat),-9223372036854775808 ≤ n ∧ n ≤ 9223372036854775807 ∧ 0 < m ∧ m ≤ 9223372036854775807 → pu 19 [.val (.int .i64 n),.val (nI m)] = some (.val (nI (aroundI n m)))) (h21 : ∀ (l : List Int) (k : Nat) (id : ID),LI l → k ≤ 900 → pu 21 [sl iC .no l,.val (nI k),.agg (iD id)] = some (.agg (pC (oneP l k id)))) (h33 : ∀ (w : Wrk) (id : ID),WB w → pu 33 [.agg [sl vC .no w],.agg (iD id)] = some (.tup [.agg [.val (nI (fnd w id).1.1),.val (nI (fnd w id).1.2.1),.val (nI (fnd w id).1.2.2)],.val (.bool (fnd w id).2)])) (w : Wrk) (how y : Int) (hw : WG w) (hho : -9223372036854775808 ≤ how ∧ how ≤ 9223372036854775807) (hy0 : -9223372036854775808 ≤ y ∧ y ≤ 9223372036854775807) : FC Tryd.prog gl 51 [.agg [sl vC .no w],.val (.int .i64 how),.val (.int .i64 y)] [] (.agg [sl vC .no (spW w how y)]) [] := by
  exact fc51 hcx h19 h21 h33 w how y hw hho hy0
end Go.Sx
namespace Go.Sx
open Go.RowKit Go.Proofs
set_option maxRecDepth 100000
set_option maxHeartbeats 8000000
set_option maxRecDepth 100000
def ixI (l : List Psg) (x : ID) : Int := match l.findIdx? (fun p => decide (p.1 = x)) with
  | some k => (k : Int)
  | none => -1
theorem gtP_get {l : List Psg} {i : Nat} (h : i < l.length) : gt l i = l[i] := by simp [gt,List.getD,List.getElem?_eq_getElem h]
theorem ixI_T {l : List Psg} {x : ID} {i : Nat} (hi : i < l.length) (hn : ∀ j,j < i → ¬ (gt l j).1 = x) (h : (gt l i).1 = x) : ixI l x = (i : Int) := by
  have : l.findIdx? (fun p => decide (p.1 = x)) = some i := by
    rw [List.findIdx?_eq_some_iff_getElem]
    refine ⟨hi,by rw [← gtP_get hi]; simpa using h,fun j hj => ?_⟩
    have := hn j hj
    rw [gtP_get (by omega)] at this
    simpa using this
  unfold ixI; rw [this]
theorem ixI_F {l : List Psg} {x : ID} (hn : ∀ j,j < l.length → ¬ (gt l j).1 = x) : ixI l x = -1 := by
  have : l.findIdx? (fun p => decide (p.1 = x)) = none := by
    rw [List.findIdx?_eq_none_iff]
    intro p hp
    obtain ⟨j,hj,rfl⟩ := List.getElem_of_mem hp
    have := hn j hj
    rw [gtP_get hj] at this
    simpa using this
  unfold ixI; rw [this]
theorem ixI_lt (l : List Psg) (x : ID) (h : l.length ≤ 1000000) : -1 ≤ ixI l x ∧ ixI l x ≤ 1000000 := by
  unfold ixI
  split
  · rename_i k hk
    have := (List.findIdx?_eq_some_iff_getElem.1 hk).1
    omega
  · omega
theorem psgs_ext {a b : List Psg} (h : a.length = b.length) (hn : ∀ j,j < a.length → gt a j = gt b j) : a = b := by
  refine List.ext_getElem h fun i h1 h2 => ?_
  have := hn i h1
  rwa [gtP_get h1,gtP_get h2] at this
noncomputable instance dlP (a b : List Psg) : Decidable (a = b) := Classical.propDecidable _
def ordR (m : List ID) (l : List Psg) : Nat → List ID
  | 0 => []
  | k + 1 => if (gt l k).1 ∈ m ∧ ¬ (gt l k).1 ∈ ordR m l k then ordR m l k ++ [(gt l k).1] else ordR m l k
theorem ordR_len (m : List ID) (l : List Psg) : ∀ k,(ordR m l k).length ≤ k
  | 0 => Nat.le_refl _
  | k + 1 => by
    have := ordR_len m l k
    unfold ordR
    split
    · rw [List.length_append,List.length_singleton]; omega
    · omega
theorem ordR_T {m : List ID} {l : List Psg} {k : Nat} (h1 : (gt l k).1 ∈ m) (h2 : ¬ (gt l k).1 ∈ ordR m l k) : ordR m l (k + 1) = ordR m l k ++ [(gt l k).1] := if_pos ⟨h1,h2⟩
theorem ordR_F {m : List ID} {l : List Psg} {k : Nat} (h : ¬ ((gt l k).1 ∈ m ∧ ¬ (gt l k).1 ∈ ordR m l k)) : ordR m l (k + 1) = ordR m l k := if_neg h
theorem X_fc69 {p : Prop} (e : p := by intro KZ hZ; simp -implicitDefEqProofs (disch := first | omega | (simp only [go_sem,lA,lD,lT] <;> omega) | decide) only [go_sem,↓reduceIte,Nat.reduceEqDiff,reduceCtorEq,Nat.reduceLT,Nat.reduceBEq,Nat.reduceAdd,h60,hy]; with_reducible exact hZ) : p := e
theorem Y_fc69 {p : Prop} (e : p := by intro KZ hZ; simp -implicitDefEqProofs (disch := first | omega | (simp only [go_sem,lA,lD,lT] <;> omega) | decide) only [go_sem,↓reduceIte,Nat.reduceEqDiff,reduceCtorEq,Nat.reduceLT,Nat.reduceBEq,Nat.reduceAdd,h60,hy]; with_reducible refine And.intro ?_ hZ; first | exact rfl | decide) : p := e
theorem F_fc69 {p : Prop} (e : p := by simp -implicitDefEqProofs (disch := first | omega | (simp only [go_sem,lA,lD,lT] <;> omega) | decide) only [go_sem,↓reduceIte,Nat.reduceEqDiff,reduceCtorEq]; all_goals (first | (rw [hR]; done) | (rw [hR]; rfl))) : p := e
theorem fc69 {gl : Nat → C} {M : Nat} {pu : Nat → List C → Option C} (hcx : CxOK (cxP gl M pu)) (h60 : ∀ a b : ID,pu 60 [.agg (iD a),.agg (iD b)] = some (.val (.bool (decide (a = b))))) (l : List Psg) (x : ID) (hl : l.length ≤ 1000000) : FC Tryd.prog gl 69 [sl pC .no l,.agg (iD x)] [] (.val (.int .i64 (ixI l x))) [] := by
 replace hcx := hcx.reN (M := 20)
 refine FC.ofA (cx := cxP gl 20 pu) (rs := [.tmp 4]) rfl Tryd.func69 rfl rfl rfl (by simp only [List.length_cons,List.length_nil]; decide) (by simp only [go_sem]) ?_
 simp only [ini,go_sem]
 have hy := True.intro
 refine Tr.w hcx [] _ [none] rfl rfl rfl ?_ X_fc69
 refine Tr.seqK fun K1 hK1 => ?_
 refine Tr.w hcx [] _ [] rfl rfl rfl ?_ X_fc69
 refine Tr.k [0,3,5] ?_
 refine Tr.blk ?_
 refine Tr.loopI (α := Nat) (fun a => [(0,?v0_1),(3,?v3_1),(5,.val (nI a))]) (fun a => [some (iD x)]) (fun a => a ≤ l.length ∧ ∀ j,j < a → ¬ (gt l j).1 = x) (fun a => l.length - a) (0) ⟨Nat.zero_le _,fun j hj => by omega⟩ ?le_1 ?hh_1 ?bd_1
 case hh_1 => exact rfl
 case le_1 => exact LT
 rintro i ⟨hi,hn⟩
 refine Tr.seqK fun K2 hK2 => ?_
 refine Tr.w hcx [] _ [] rfl rfl rfl ?_ X_fc69
 refine Tr.cD rfl (fun hc9 => ?_) (fun hc9 => ?_)
 ·
  refine Tr.skip ?_
  refine hK2 _ ?_
  refine Tr.seqK fun K3 hK3 => ?_
  refine Tr.blk ?_
  refine Tr.wD hcx hMO [] _ [] rfl rfl rfl rfl ?_ Y_fc69
  refine Tr.cD rfl (fun hc18 => ?_) (fun hc18 => ?_)
  ·
   have hR := ixI_T hc9 hn hc18
   refine Tr.w hcx [1000019] _ [] rfl rfl rfl ?_ X_fc69
   exact Tr.ret F_fc69
  refine Tr.skip ?_
  refine hK3 _ ?_
  refine Tr.v hcx [1000011] _ [] rfl rfl rfl ?_ X_fc69
  exact ⟨i + 1,⟨⟨by omega,fun j hj => (Nat.lt_succ_iff_lt_or_eq.1 hj).elim (hn j) (fun e => by subst e; exact hc18)⟩,O1⟩,LT,rfl⟩
 obtain rfl : i = l.length := by omega
 have hR := ixI_F hn
 refine Tr.exit ?_
 refine hK1 _ ?_
 refine Tr.w hcx [] _ [] rfl rfl rfl ?_ X_fc69
 exact Tr.ret F_fc69
theorem X_fc23 {p : Prop} (e : p := by intro KZ hZ; simp -implicitDefEqProofs (disch := first | omega | (simp only [go_sem,lA,lD,lT] <;> omega) | decide) only [go_sem,↓reduceIte,Nat.reduceEqDiff,reduceCtorEq,Nat.reduceLT,Nat.reduceBEq,Nat.reduceAdd,e36,c0,c1,hy]; with_reducible exact hZ) : p := e
theorem Y_fc23 {p : Prop} (e : p := by intro KZ hZ; simp -implicitDefEqProofs (disch := first | omega | (simp only [go_sem,lA,lD,lT] <;> omega) | decide) only [go_sem,↓reduceIte,Nat.reduceEqDiff,reduceCtorEq,Nat.reduceLT,Nat.reduceBEq,Nat.reduceAdd,e36,c0,c1,hy]; with_reducible refine And.intro ?_ hZ; first | exact rfl | decide) : p := e
theorem F_fc23 {p : Prop} (e : p := by simp -implicitDefEqProofs (disch := first | omega | (simp only [go_sem,lA,lD,lT] <;> omega) | decide) only [go_sem,↓reduceIte,Nat.reduceEqDiff,reduceCtorEq]; all_goals (simp [hR])) : p := e
theorem fc23 {gl : Nat → C} {M : Nat} {pu : Nat → List C → Option C} (hcx : CxOK (cxP gl M pu)) (h36 : ∀ a b : Psg,a.2.2.2.2.length ≤ 1000000 → b.2.2.2.2.length ≤ 1000000 → pu 36 [.agg (pC a),.agg (pC b)] = some (.val (.bool (decide (a = b))))) (l m : List Psg) (ha : l.length ≤ 1000000) (hb : m.length ≤ 1000000) (hla : (∀ i,i < (l).length → (gt (l) i).2.2.2.2.length ≤ 1000000)) (hmb : (∀ i,i < (m).length → (gt (m) i).2.2.2.2.length ≤ 1000000)) : FC Tryd.prog gl 23 [sl pC .no l,sl pC .no m] [] (.val (.bool (decide (l = m)))) [] := by
 replace hcx := hcx.reN (M := 27)
 refine FC.ofA (cx := cxP gl 27 pu) (rs := [.tmp 4]) rfl Tryd.func23 rfl rfl rfl (by simp only [List.length_cons,List.length_nil]; decide) (by simp only [go_sem]) ?_
 simp only [ini,go_sem]
 have c0 := True.intro
 have c1 := True.intro
 have hy := True.intro
 have e36 := True.intro
 refine Tr.w hcx [] _ [] rfl rfl rfl ?_ X_fc23
 refine Tr.seqK fun K1 hK1 => ?_
 by_cases c0 : (l.length = m.length) = True
 ·
  have hlm := of_eq_true c0
  refine Tr.w hcx [] _ [] rfl rfl rfl ?_ X_fc23
  refine Tr.cF rfl ?_
  refine Tr.skip ?_
  refine hK1 _ ?_
  refine Tr.seqK fun K2 hK2 => ?_
  refine Tr.w hcx [] _ [] rfl rfl rfl ?_ X_fc23
  refine Tr.k [0,1,5] ?_
  refine Tr.blk ?_
  refine Tr.loopI (α := Nat) (fun a => [(0,?v0_1),(1,?v1_1),(5,.val (nI a))]) (fun a => []) (fun a => a ≤ l.length ∧ ∀ j,j < a → gt l j = gt m j) (fun a => l.length - a) (0) ⟨Nat.zero_le _,fun j hj => by omega⟩ ?le_1 ?hh_1 ?bd_1
  case hh_1 => exact rfl
  case le_1 => exact LT
  rintro i ⟨hi,hn⟩
  refine Tr.seqK fun K3 hK3 => ?_
  refine Tr.w hcx [] _ [] rfl rfl rfl ?_ X_fc23
  refine Tr.cD rfl (fun hc14 => ?_) (fun hc14 => ?_)
  ·
   have e36 := h36 (gt l i) (gt m i) (hla i hc14) (hmb i (by omega))
   refine Tr.skip ?_
   refine hK3 _ ?_
   refine Tr.seqK fun K4 hK4 => ?_
   refine Tr.blk ?_
   by_cases c1 : gt l i = gt m i
   ·
    rw [c1] at e36
    refine Tr.wD hcx hMO [] _ [] rfl rfl rfl rfl ?_ Y_fc23
    refine Tr.cF rfl ?_
    refine Tr.skip ?_
    refine hK4 _ ?_
    refine Tr.v hcx [1000016] _ [] rfl rfl rfl ?_ X_fc23
    exact ⟨i + 1,⟨⟨by omega,fun j hj => (Nat.lt_succ_iff_lt_or_eq.1 hj).elim (hn j) (fun e => by subst e; exact c1)⟩,O1⟩,LT,rfl⟩
   skip
   refine Tr.wD hcx hMO [] _ [] rfl rfl rfl rfl ?_ Y_fc23
   refine Tr.cT rfl ?_
   have hR : ¬ l = m := fun h => c1 (by rw [h])
   refine Tr.w hcx [] _ [] rfl rfl rfl ?_ X_fc23
   exact Tr.ret F_fc23
  obtain rfl : i = l.length := by omega
  have hR := psgs_ext hlm hn
  refine Tr.exit ?_
  refine hK2 _ ?_
  refine Tr.w hcx [] _ [] rfl rfl rfl ?_ X_fc23
  exact Tr.ret F_fc23
 have c0 : (l.length = m.length) = False := eq_false (fun h => c0 (eq_true h))
 refine Tr.w hcx [] _ [] rfl rfl rfl ?_ X_fc23
 refine Tr.cT rfl ?_
 have hR : ¬ l = m := fun h => of_eq_false c0 (by rw [h])
 refine Tr.w hcx [] _ [] rfl rfl rfl ?_ X_fc23
 exact Tr.ret F_fc23
theorem X_fc26 {p : Prop} (e : p := by intro KZ hZ; simp -implicitDefEqProofs (maxSteps := 2000000) (disch := first | omega | (simp only [go_sem,lA,lD,lT,hwl,hal] <;> omega) | decide) only [go_sem,↓reduceIte,Nat.reduceEqDiff,reduceCtorEq,Nat.reduceLT,Nat.reduceBEq,Nat.reduceAdd,e14,hy]; with_reducible exact hZ) : p := e
theorem Y_fc26 {p : Prop} (e : p := by intro KZ hZ; simp -implicitDefEqProofs (maxSteps := 2000000) (disch := first | omega | (simp only [go_sem,lA,lD,lT,hwl,hal] <;> omega) | decide) only [go_sem,↓reduceIte,Nat.reduceEqDiff,reduceCtorEq,Nat.reduceLT,Nat.reduceBEq,Nat.reduceAdd,e14,hy]; with_reducible refine And.intro ?_ hZ; first | exact rfl | decide) : p := e
theorem F_fc26 {p : Prop} (e : p := by simp -implicitDefEqProofs (disch := first | omega | (simp only [go_sem,lA,lD,lT,hwl,hal] <;> omega) | decide) only [go_sem,↓reduceIte,Nat.reduceEqDiff,reduceCtorEq]; all_goals (rfl)) : p := e
theorem fc26 {gl : Nat → C} {M : Nat} {pu : Nat → List C → Option C} (hcx : CxOK (cxP gl M pu)) (h14 : ∀ w : Wrk,WS w → pu 14 [.agg [sl vC .no w]] = some (sl pC (.own 7) (alW w))) (w : Wrk) (hw : WG w) : FC Tryd.prog gl 26 [.agg [sl vC .no w]] [] (.agg [.val (nI w.length),.val (nI (nA w w.length)),.val (nI (alW w).length)]) [] := by
 replace hcx := hcx.reN (M := 29)
 refine FC.ofA (cx := cxP gl 29 pu) (rs := [.cell 2 53]) rfl Tryd.func26 rfl rfl rfl (by simp only [List.length_cons,List.length_nil]; decide) (by simp only [go_sem]) ?_
 simp only [ini,go_sem]
 have hy := True.intro
 have e14 := h14 w hw.ws
 have hwl := hw.n
 have hal := hw.al
 have har := hw.ar
 refine Tr.w hcx [] _ [none,none] rfl rfl rfl ?_ X_fc26
 refine Tr.w hcx [] _ [] rfl rfl rfl ?_ X_fc26
 refine Tr.seqK fun K1 hK1 => ?_
 refine Tr.w hcx [] _ [] rfl rfl rfl ?_ X_fc26
 refine Tr.k [1,2,3,4] ?_
 refine Tr.blk ?_
 refine Tr.loopI (α := Nat) (fun a => [(1,?v1_1),(2,?v2_1),(3,.val (nI (nA w a))),(4,.val (nI a))]) (fun a => [some [sl vC .no w],some [.val (nI 0),.val (nI 0),.val (nI 0)]]) (fun a => a ≤ w.length) (fun a => w.length - a) (0) (Nat.zero_le _) ?le_1 ?hh_1 ?bd_1
 case hh_1 => exact rfl
 case le_1 => exact LT
 rintro i hi
 refine Tr.seqK fun K2 hK2 => ?_
 refine Tr.w hcx [] _ [] rfl rfl rfl ?_ X_fc26
 refine Tr.cD rfl (fun hc9 => ?_) (fun hc9 => ?_)
 ·
  have hnS := nA_S w i hc9
  have hnle := nA_le w (i + 1)
  refine Tr.skip ?_
  refine hK2 _ ?_
  refine Tr.seqK fun K3 hK3 => ?_
  refine Tr.blk ?_
  refine Tr.v hcx [1000020] _ [] rfl rfl rfl ?_ X_fc26
  refine hK3 _ ?_
  refine Tr.v hcx [1000011] _ [] rfl rfl rfl ?_ X_fc26
  refine ⟨i + 1,⟨(by omega),O1⟩,?_,rfl⟩
  (simp only [Le_nil,Le_cons,↓A_cons,↓reduceIte,Nat.reduceEqDiff,CLe_refl,CLe_top,CLe_full,CLe_nil,CLe_own,and_true,true_and]; all_goals (repeat' first | exact CLe.refl _ | exact True.intro | (refine CLe_sln ?_; first | rfl | (simp only [List.take_zero]; done)) | exact CLe_nI (by omega) | exact CLe_int (by omega) | exact CLe_inI (by omega) | exact CLe_nIi (by omega) | with_reducible apply And.intro))
  all_goals first | (rw [nA_S w i hc9]; exact CLe.refl _) | exact CLe.refl _
 obtain rfl : i = w.length := by omega
 refine Tr.exit ?_
 refine hK1 _ ?_
 refine Tr.wD hcx hMO [] _ [] rfl rfl rfl rfl ?_ Y_fc26
 exact Tr.ret F_fc26
theorem X_fc29 {p : Prop} (e : p := by intro KZ hZ; simp -implicitDefEqProofs (disch := first | omega | (simp only [go_sem,lA,lD,lT,hal,hO] <;> omega) | decide) only [go_sem,↓reduceIte,Nat.reduceEqDiff,reduceCtorEq,Nat.reduceLT,Nat.reduceBEq,Nat.reduceAdd,e14,h37,c2,c3,hy]; with_reducible exact hZ) : p := e
theorem F_fc29 {p : Prop} (e : p := by simp -implicitDefEqProofs (disch := first | omega | (simp only [go_sem,lA,lD,lT,hal,hO] <;> omega) | decide) only [go_sem,↓reduceIte,Nat.reduceEqDiff,reduceCtorEq]; all_goals (rfl)) : p := e
theorem fc29 {gl : Nat → C} {M : Nat} {pu : Nat → List C → Option C} (hcx : CxOK (cxP gl M pu)) (h14 : ∀ w : Wrk,WS w → pu 14 [.agg [sl vC .no w]] = some (sl pC (.own 7) (alW w))) (h37 : ∀ (l : List ID) (x : ID),l.length ≤ 1000000 → pu 37 [sl iD .no l,.agg (iD x)] = some (.val (.bool (decide (x ∈ l))))) (w : Wrk) (m : List ID) (hw : WG w) (hm : m.length ≤ 1000000) : FC Tryd.prog gl 29 [.agg [sl vC .no w],sl iD .no m] [] (sl iD (.own 3) (ordR m (alW w) (alW w).length)) [] := by
 replace hcx := hcx.reN (M := 42)
 refine FC.ofA (cx := cxP gl 42 pu) (rs := [.tmp 4]) rfl Tryd.func29 rfl rfl rfl (by simp only [List.length_cons,List.length_nil]; decide) (by simp only [go_sem]) ?_
 simp only [ini,go_sem]
 have c2 := True.intro
 have c3 := True.intro
 have hy := True.intro
 have e14 := h14 w hw.ws
 have hal := hw.al
 have hO := True.intro
 refine Tr.w hcx [] _ [none] rfl rfl rfl ?_ X_fc29
 refine Tr.w hcx [] _ [] rfl rfl rfl ?_ X_fc29
 refine Tr.w hcx [1000009] _ [] rfl rfl rfl ?_ X_fc29
 refine Tr.seqK fun K1 hK1 => ?_
 refine Tr.w hcx [] _ [] rfl rfl rfl ?_ X_fc29
 refine Tr.k [1,5,6,7] ?_
 refine Tr.blk ?_
 refine Tr.loopI (α := Nat) (fun a => [(1,?v1_1),(5,sl iD (.own 3) (ordR m (alW w) a)),(6,?v6_1),(7,.val (nI a))]) (fun a => [some [sl vC .no w]]) (fun a => a ≤ (alW w).length) (fun a => (alW w).length - a) (0) (Nat.zero_le _) ?le_1 ?hh_1 ?bd_1
 case hh_1 => exact rfl
 case le_1 => exact LT
 rintro i hi
 refine Tr.seqK fun K2 hK2 => ?_
 refine Tr.w hcx [] _ [] rfl rfl rfl ?_ X_fc29
 refine Tr.cD rfl (fun hc13 => ?_) (fun hc13 => ?_)
 ·
  have hO := ordR_len m (alW w) i
  refine Tr.skip ?_
  refine hK2 _ ?_
  refine Tr.seqK fun K3 hK3 => ?_
  refine Tr.blk ?_
  by_cases c2 : (gt (alW w) i).1 ∈ m
  ·
   by_cases c3 : (gt (alW w) i).1 ∈ ordR m (alW w) i
   ·
    refine Tr.w hcx [] [some 16,some 17,some 18,some 19,some 20,some 21,some 22,some 23,some 24,some 25,some 26,some 27,some 28,some 29,some 30,some 31,some 32] [] rfl rfl rfl ?_ X_fc29
    refine Tr.cF rfl ?_
    refine Tr.skip ?_
    refine hK3 _ ?_
    refine Tr.k [1,5,6,7] ?_
    refine Tr.v hcx [1000015] _ [] rfl rfl rfl ?_ X_fc29
    refine ⟨i + 1,⟨(by omega),O1⟩,?_,rfl⟩
    (simp only [Le_nil,Le_cons,↓A_cons,↓reduceIte,Nat.reduceEqDiff,CLe_refl,CLe_top,CLe_full,CLe_nil,CLe_own,and_true,true_and]; all_goals (repeat' first | exact CLe.refl _ | exact True.intro | (refine CLe_sln ?_; first | rfl | (simp only [List.take_zero]; done)) | exact CLe_nI (by omega) | exact CLe_int (by omega) | exact CLe_inI (by omega) | exact CLe_nIi (by omega) | with_reducible apply And.intro))
    all_goals first | (rw [ordR_F (fun h => h.2 c3)]; exact CLe.refl _) | exact CLe.refl _
   refine Tr.w hcx [] [some 16,some 17,some 18,some 19,some 20,some 21,some 22,some 23,some 24,some 25,some 26,some 27,some 28,some 29,some 30,some 31,some 32] [] rfl rfl rfl ?_ X_fc29
   refine Tr.cT rfl ?_
   refine Tr.v hcx [33,1000040] _ [] rfl rfl rfl ?_ X_fc29
   refine hK3 _ ?_
   refine Tr.k [1,5,6,7] ?_
   refine Tr.v hcx [1000015] _ [] rfl rfl rfl ?_ X_fc29
   refine ⟨i + 1,⟨(by omega),O1⟩,?_,rfl⟩
   (simp only [Le_nil,Le_cons,↓A_cons,↓reduceIte,Nat.reduceEqDiff,CLe_refl,CLe_top,CLe_full,CLe_nil,CLe_own,and_true,true_and]; all_goals (repeat' first | exact CLe.refl _ | exact True.intro | (refine CLe_sln ?_; first | rfl | (simp only [List.take_zero]; done)) | exact CLe_nI (by omega) | exact CLe_int (by omega) | exact CLe_inI (by omega) | exact CLe_nIi (by omega) | with_reducible apply And.intro))
   all_goals first | (rw [ordR_T c2 c3]; exact CLe.refl _) | exact CLe.refl _
  refine Tr.w hcx [] [some 16,some 17,some 18,some 19,some 20,some 21,some 22,some 23,some 24,some 25,some 26,some 27,some 28,some 29,some 30,some 31,some 32] [] rfl rfl rfl ?_ X_fc29
  refine Tr.cF rfl ?_
  refine Tr.skip ?_
  refine hK3 _ ?_
  refine Tr.k [1,5,6,7] ?_
  refine Tr.v hcx [1000015] _ [] rfl rfl rfl ?_ X_fc29
  refine ⟨i + 1,⟨(by omega),O1⟩,?_,rfl⟩
  (simp only [Le_nil,Le_cons,↓A_cons,↓reduceIte,Nat.reduceEqDiff,CLe_refl,CLe_top,CLe_full,CLe_nil,CLe_own,and_true,true_and]; all_goals (repeat' first | exact CLe.refl _ | exact True.intro | (refine CLe_sln ?_; first | rfl | (simp only [List.take_zero]; done)) | exact CLe_nI (by omega) | exact CLe_int (by omega) | exact CLe_inI (by omega) | exact CLe_nIi (by omega) | with_reducible apply And.intro))
  all_goals first | (rw [ordR_F (fun h => c2 h.1)]; exact CLe.refl _) | exact CLe.refl _
 obtain rfl : i = (alW w).length := by omega
 refine Tr.exit ?_
 refine hK1 _ ?_
 refine Tr.w hcx [1000041] _ [] rfl rfl rfl ?_ X_fc29
 exact Tr.ret F_fc29
theorem X_fc31 {p : Prop} (e : p := by intro KZ hZ; simp -implicitDefEqProofs (disch := first | omega | (simp only [go_sem,lA,lD,lT,hal] <;> omega) | decide) only [go_sem,↓reduceIte,Nat.reduceEqDiff,reduceCtorEq,Nat.reduceLT,Nat.reduceBEq,Nat.reduceAdd,e14,h69,c1,c2,hy]; with_reducible exact hZ) : p := e
theorem F_fc31 {p : Prop} (e : p := by simp -implicitDefEqProofs (disch := first | omega | (simp only [go_sem,lA,lD,lT,hal] <;> omega) | decide) only [go_sem,↓reduceIte,Nat.reduceEqDiff,reduceCtorEq]; all_goals (first | (simp_all; done) | (simp_all; omega))) : p := e
theorem fc31 {gl : Nat → C} {M : Nat} {pu : Nat → List C → Option C} (hcx : CxOK (cxP gl M pu)) (h14 : ∀ w : Wrk,WS w → pu 14 [.agg [sl vC .no w]] = some (sl pC (.own 7) (alW w))) (h69 : ∀ (l : List Psg) (x : ID),l.length ≤ 1000000 → pu 69 [sl pC .no l,.agg (iD x)] = some (.val (.int .i64 (ixI l x)))) (w : Wrk) (a b : ID) (hw : WG w) : FC Tryd.prog gl 31 [.agg [sl vC .no w],.agg (iD a),.agg (iD b)] [] (.val (.bool (decide (0 ≤ ixI (alW w) a ∧ 0 ≤ ixI (alW w) b ∧ ixI (alW w) a < ixI (alW w) b)))) [] := by
 replace hcx := hcx.reN (M := 29)
 refine FC.ofA (cx := cxP gl 29 pu) (rs := [.tmp 6]) rfl Tryd.func31 rfl rfl rfl (by simp only [List.length_cons,List.length_nil]; decide) (by simp only [go_sem]) ?_
 simp only [ini,go_sem]
 have c1 := True.intro
 have c2 := True.intro
 have hy := True.intro
 have e14 := h14 w hw.ws
 have hal := hw.al
 have i1 := ixI_lt (alW w) a (by omega)
 have i2 := ixI_lt (alW w) b (by omega)
 refine Tr.w hcx [] _ [none,none,none] rfl rfl rfl ?_ X_fc31
 refine Tr.w hcx [1000011] _ [] rfl rfl rfl ?_ X_fc31
 refine Tr.w hcx [1000014] _ [] rfl rfl rfl ?_ X_fc31
 refine Tr.w hcx [1000017] _ [] rfl rfl rfl ?_ X_fc31
 refine Tr.k [8,9] ?_
 by_cases c1 : ((0 : Nat) : Int) ≤ ixI (alW w) a
 ·
  by_cases c2 : ((0 : Nat) : Int) ≤ ixI (alW w) b
  ·
   refine Tr.w hcx [1000028] [some 18,some 19,some 20,some 21,some 22,some 23,some 24,some 25,some 26,some 27,some 28,some 6] [] rfl rfl rfl ?_ X_fc31
   exact Tr.ret F_fc31
  refine Tr.w hcx [1000028] [some 18,some 19,some 20,some 21,some 22,some 23,some 24,some 25,some 26,some 27,some 28,some 6] [] rfl rfl rfl ?_ X_fc31
  exact Tr.ret F_fc31
 refine Tr.w hcx [1000028] [some 18,some 19,some 20,some 21,some 22,some 23,some 24,some 25,some 26,some 27,some 28,some 6] [] rfl rfl rfl ?_ X_fc31
 exact Tr.ret F_fc31
end Go.Sx
namespace Go.Sx
open Go.RowKit Go.Proofs
theorem insI_nodup {M : List ID} (h : M.Nodup) (x : ID) : (insI M x).Nodup := by
  unfold insI
  split
  · exact h
  · rename_i hx
    rw [List.nodup_append]
    refine ⟨h,by simp,fun a ha b hb e => ?_⟩
    rw [List.mem_singleton] at hb
    exact hx (hb ▸ e ▸ ha)
theorem insL_nodup (l : List ID) : (insL l).Nodup := by
  unfold insL
  have : ∀ (l M : List ID),M.Nodup → (l.foldl insI M).Nodup := by
    intro l
    induction l with
    | nil => intro M h; exact h
    | cons x l ih => intro M h; exact ih _ (insI_nodup h x)
  exact this l [] List.nodup_nil
theorem ordS_inv (m : List ID) (l : List Psg) : ∀ k,k ≤ l.length → (ordS (insL m) (l.take k)).1.Nodup ∧ (∀ x,x ∈ (ordS (insL m) (l.take k)).1 ↔ x ∈ m ∧ ¬ x ∈ (ordS (insL m) (l.take k)).2) ∧ ordR m l k = (ordS (insL m) (l.take k)).2
  | 0,_ => ⟨by simpa [ordS] using insL_nodup m,fun x => by simp [ordS,mem_insL],by simp [ordS,ordR]⟩
  | k + 1,hk => by
    obtain ⟨h1,h2,h3⟩ := ordS_inv m l k (by omega)
    have e : l.take (k + 1) = l.take k ++ [gt l k] := by
      rw [List.take_add_one,List.getElem?_eq_getElem (by omega),gtP_get (by omega)]; rfl
    rw [e,ordS_app]
    by_cases hp : (gt l k).1 ∈ (ordS (insL m) (l.take k)).1
    · have q := (h2 _).1 hp
      rw [if_pos hp]
      refine ⟨h1.erase _,fun x => ?_,?_⟩
      · rw [h1.mem_erase_iff,h2,List.mem_append,List.mem_singleton]
        constructor
        · rintro ⟨a,b,c⟩; exact ⟨b,fun h => h.elim c a⟩
        · rintro ⟨a,b⟩; exact ⟨fun h => b (.inr h),a,fun h => b (.inl h)⟩
      · rw [ordR_T q.1 (by rw [h3]; exact q.2),h3]
    · rw [if_neg hp]
      refine ⟨h1,h2,?_⟩
      rw [ordR_F (fun h => hp ((h2 _).2 ⟨h.1,by rw [← h3]; exact h.2⟩)),h3]
theorem ordR_eq (m : List ID) (l : List Psg) : ordR m l l.length = (ordS (insL m) l).2 := by
  have := (ordS_inv m l l.length (Nat.le_refl _)).2.2
  rw [List.take_length] at this
  exact this
theorem ixI_le {l : List Psg} {x : ID} {j : Nat} (hj : j < l.length) (h : (gt l j).1 = x) : 0 ≤ ixI l x ∧ ixI l x ≤ j := by
  unfold ixI
  cases hf : l.findIdx? (fun p => decide (p.1 = x)) with
  | none =>
    have := List.findIdx?_eq_none_iff.1 hf (gt l j) (gt_mem' l j hj)
    simp [h] at this
  | some k =>
    obtain ⟨h1,h2,h3⟩ := List.findIdx?_eq_some_iff_getElem.1 hf
    refine ⟨by show 0 ≤ (k : Int); omega,?_⟩
    show (k : Int) ≤ j
    by_cases hkj : k ≤ j
    · omega
    · have := h3 j (by omega)
      rw [← gtP_get hj,h] at this
      simp at this
theorem ixI_at {l : List Psg} {x : ID} {k : Nat} (hk : k < l.length) (h : (gt l k).1 = x) (hn : ¬ (0 ≤ ixI l x ∧ ixI l x < k)) : ixI l x = k := by
  have := ixI_le hk h
  omega
theorem ixI_of {l : List Psg} {x : ID} {k : Nat} (h : ixI l x = k) : k < l.length ∧ (gt l k).1 = x := by
  unfold ixI at h
  split at h
  · rename_i k' hf
    obtain rfl : k' = k := by omega
    obtain ⟨h1,h2,_⟩ := List.findIdx?_eq_some_iff_getElem.1 hf
    refine ⟨h1,?_⟩
    rw [gtP_get h1]; simpa using h2
  · omega
def two (a b : ID) (i j : Int) (k : Nat) : List ID :=
  if 0 ≤ i ∧ i < k then (if 0 ≤ j ∧ j < k then (if i < j then [a,b] else [b,a]) else [a]) else (if 0 ≤ j ∧ j < k then [b] else [])
theorem ordR_two {a b : ID} (hab : ¬ a = b) (l : List Psg) : ∀ k,k ≤ l.length → ordR [a,b] l k = two a b (ixI l a) (ixI l b) k
  | 0,_ => by unfold two; rw [if_neg (by omega),if_neg (by omega)]; rfl
  | k + 1,hk => by
    have ih := ordR_two hab l k (by omega)
    by_cases ea : (gt l k).1 = a
    · have qa := ixI_le (by omega) ea
      by_cases h : 0 ≤ ixI l a ∧ ixI l a < k
      · rw [ordR_F (fun h' => h'.2 (by rw [ih,ea]; unfold two; rw [if_pos h]; split <;> (try split) <;> simp)),ih]
        have nb : ¬ ixI l b = k := fun e => hab (by rw [← ea,(ixI_of e).2])
        unfold two
        simp only [Int.natCast_add,Int.natCast_one]
        repeat' split
        all_goals first | rfl | omega
      · have e1 := ixI_at (by omega) ea h
        have nb : ¬ ixI l b = k := fun e => hab (by rw [← ea,(ixI_of e).2])
        have hni : ¬ (gt l k).1 ∈ ordR [a,b] l k := by
          rw [ih,ea]; unfold two; rw [if_neg h]; split
          · simp [hab]
          · simp
        rw [ordR_T (by rw [ea]; simp) hni,ih,ea]
        unfold two
        simp only [Int.natCast_add,Int.natCast_one]
        repeat' split
        all_goals first | rfl | omega
    · by_cases eb : (gt l k).1 = b
      · have qb := ixI_le (by omega) eb
        have na : ¬ ixI l a = k := fun e => ea (ixI_of e).2
        by_cases h : 0 ≤ ixI l b ∧ ixI l b < k
        · rw [ordR_F (fun h' => h'.2 (by rw [ih,eb]; unfold two; rw [if_pos h]; split <;> (try split) <;> simp)),ih]
          unfold two
          simp only [Int.natCast_add,Int.natCast_one]
          repeat' split
          all_goals first | rfl | omega
        · have e1 := ixI_at (by omega) eb h
          have hni : ¬ (gt l k).1 ∈ ordR [a,b] l k := by
            rw [ih,eb]; unfold two; rw [if_neg h]; split
            · simp [Ne.symm hab]
            · simp
          rw [ordR_T (by rw [eb]; simp) hni,ih,eb]
          unfold two
          simp only [Int.natCast_add,Int.natCast_one]
          repeat' split
          all_goals first | rfl | omega
      · have na : ¬ ixI l a = k := fun e => ea (ixI_of e).2
        have nb : ¬ ixI l b = k := fun e => eb (ixI_of e).2
        rw [ordR_F (fun h' => by simp [ea,eb] at h'),ih]
        unfold two
        simp only [Int.natCast_add,Int.natCast_one]
        repeat' split
        all_goals first | rfl | omega
theorem ordR_one (a : ID) (l : List Psg) : ∀ k,ordR [a,a] l k = [] ∨ ordR [a,a] l k = [a]
  | 0 => .inl rfl
  | k + 1 => by
    by_cases h : (gt l k).1 ∈ [a,a] ∧ ¬ (gt l k).1 ∈ ordR [a,a] l k
    · have e : (gt l k).1 = a := by simpa using h.1
      rw [ordR_T h.1 h.2]
      rcases ordR_one a l k with q | q
      · right; rw [q,e]; rfl
      · exact absurd (by rw [q,e]; simp) h.2
    · rw [ordR_F h]; exact ordR_one a l k
theorem ixI_len (l : List Psg) (x : ID) : ixI l x < l.length := by
  unfold ixI
  split
  · rename_i k hk
    have := (List.findIdx?_eq_some_iff_getElem.1 hk).1
    omega
  · omega
theorem befR_eq (w : Wrk) (a b : ID) : decide (0 ≤ ixI (alW w) a ∧ 0 ≤ ixI (alW w) b ∧ ixI (alW w) a < ixI (alW w) b) = decide ((ordS (insL [a,b]) (alW w)).2.length = 2 ∧ gt (ordS (insL [a,b]) (alW w)).2 0 = a) := by
  rw [decide_eq_decide,← ordR_eq]
  by_cases hab : a = b
  · subst hab
    constructor
    · intro h; omega
    · rintro ⟨h,_⟩
      rcases ordR_one a (alW w) (alW w).length with q | q <;> rw [q] at h <;> simp at h
  · rw [ordR_two hab _ _ (Nat.le_refl _)]
    have h1 := ixI_len (alW w) a
    have h2 := ixI_len (alW w) b
    have h3 : ixI (alW w) a = ixI (alW w) b → ¬ 0 ≤ ixI (alW w) a := fun e h0 => by
      obtain ⟨k,hk⟩ : ∃ k : Nat,ixI (alW w) a = k := ⟨(ixI (alW w) a).toNat,by omega⟩
      exact hab ((ixI_of hk).2.symm.trans (ixI_of (e ▸ hk)).2)
    unfold two
    have g2 : ∀ x y : ID,gt [x,y] 0 = x := fun _ _ => rfl
    split
    · rename_i c1
      split
      · rename_i c2
        split
        · rename_i c3
          exact ⟨fun _ => ⟨rfl,rfl⟩,fun _ => ⟨c1.1,c2.1,c3⟩⟩
        · rename_i c3
          constructor
          · intro h; exact absurd h.2.2 c3
          · rintro ⟨_,h⟩; exact absurd h.symm hab
      · rename_i c2
        constructor
        · intro h; exact absurd ⟨h.2.1,h2⟩ c2
        · rintro ⟨h,_⟩; simp at h
    · rename_i c1
      split
      · constructor
        · intro h; exact absurd ⟨h.1,h1⟩ c1
        · rintro ⟨h,_⟩; simp at h
      · constructor
        · intro h; exact absurd ⟨h.1,h1⟩ c1
        · rintro ⟨h,_⟩; simp at h
end Go.Sx
