/-
   And what follows.
-/
import Derived.Test.YtcpdlhgkdogdjaaDoorPar
set_option linter.unusedSimpArgs false
set_option linter.unusedVariables false
namespace Go.Sx
open Go.RowKit Go.Proofs
set_option maxRecDepth 100000
set_option maxHeartbeats 8000000
def fV (n v0 m : Nat) (w : Wrk) : List C := (cl vC w).set v0 (.gv (n + 1) m (2,48))
def fA (n a0 m : Nat) (V : Vol) : List C := (cl aC V).set (a0 * 2 + 1) (.gv (n + 2) m (7,37))
theorem set_app1 {α : Type} (l : List α) (x y : α) (k i : Nat) (h : l.length = i) : (l ++ [x]).set k y = if k = i then l ++ [y] else l.set k y ++ [x] := by
  subst h
  rw [List.set_append]
  split
  · rename_i hk; rw [if_neg (by omega)]
  · rename_i hk
    split
    · rename_i e; subst e; rw [Nat.sub_self]; rfl
    · rename_i e
      rw [List.set_eq_of_length_le (by omega : l.length ≤ k)]
      obtain ⟨d,hd⟩ : ∃ d,k - l.length = d + 1 := ⟨k - l.length - 1,by omega⟩
      rw [hd]; rfl
theorem cl_sn {α : Type} [Inhabited α] (f : α → List C) (l : List α) (i : Nat) (h : i < l.length) : cl f (l.take (i + 1)) = cl f (l.take i) ++ f (gt l i) := by
  rw [← take_sn l i h,cl_app]
  congr 1
  rw [cl_cons]; simp [cl]
theorem fV_own {n v0 m i : Nat} {w : Wrk} (h : i < w.length) (c : ¬ i = v0) : fV n v0 m (w.take i) ++ [sl aC .no (gt w i)] = fV n v0 m (w.take (i + 1)) := by
  unfold fV
  rw [cl_sn vC w i h]
  show _ = (cl vC (w.take i) ++ [sl aC .no (gt w i)]).set v0 _
  rw [set_app1 _ _ _ _ i (by rw [cl_len (f := vC),List.length_take]; omega),if_neg (fun e => c e.symm)]
theorem fV_foc {n m i : Nat} {w : Wrk} (h : i < w.length) : fV n i m (w.take i) ++ [.gv (n + 1) m (2,48)] = fV n i m (w.take (i + 1)) := by
  unfold fV
  rw [cl_sn vC w i h]
  show _ = (cl vC (w.take i) ++ [sl aC .no (gt w i)]).set i _
  rw [set_app1 _ _ _ _ i (by rw [cl_len (f := vC),List.length_take]; omega),if_pos rfl,List.set_eq_of_length_le (by rw [cl_len (f := vC),List.length_take]; omega)]
theorem fA_own {n a0 m i : Nat} {V : Vol} (h : i < V.length) (c : ¬ i = a0) : fA n a0 m (V.take i) ++ [.val (str (gt V i).1),sl pC .no (gt V i).2] = fA n a0 m (V.take (i + 1)) := by
  unfold fA
  rw [cl_sn aC V i h]
  show _ = (cl aC (V.take i) ++ ([C.val (str (gt V i).1)] ++ [sl pC .no (gt V i).2])).set (a0 * 2 + 1) _
  have hl : (cl aC (V.take i)).length = i * 2 := by rw [cl_len (f := aC),List.length_take]; omega
  rw [← List.append_assoc,set_app1 _ _ _ _ (i * 2 + 1) (by rw [List.length_append,hl]; rfl),if_neg (by omega)]
  rw [List.set_append]
  split
  · rw [List.append_assoc]; rfl
  · rename_i q
    rw [List.set_eq_of_length_le (l := [C.val (str (gt V i).1)]) (by show 1 ≤ _; omega),List.set_eq_of_length_le (by omega),List.append_assoc]; rfl
theorem fA_foc {n m i : Nat} {V : Vol} (h : i < V.length) : fA n i m (V.take i) ++ [.val (str (gt V i).1),.gv (n + 2) m (7,37)] = fA n i m (V.take (i + 1)) := by
  unfold fA
  rw [cl_sn aC V i h]
  show _ = (cl aC (V.take i) ++ ([C.val (str (gt V i).1)] ++ [sl pC .no (gt V i).2])).set (i * 2 + 1) _
  have hl : (cl aC (V.take i)).length = i * 2 := by rw [cl_len (f := aC),List.length_take]; omega
  rw [← List.append_assoc,set_app1 _ _ _ _ (i * 2 + 1) (by rw [List.length_append,hl]; rfl),if_pos rfl,List.set_eq_of_length_le (by omega),List.append_assoc]
  rfl
def bV (n v0 a0 m : Nat) (w : Wrk) (i : Nat) : List C := if i ≤ v0 then [] else fA n a0 m (gt w v0)
def bA (v0 a0 : Nat) (w : Wrk) (i : Nat) : List C := if i ≤ v0 then [] else cl pC (gt (gt w v0) a0).2
def bL (a0 : Nat) (V : Vol) (k : Nat) : List C := if k ≤ a0 then [] else cl pC (gt V a0).2
theorem bV_own {n v0 a0 m i : Nat} {w : Wrk} (c : ¬ i = v0) : bV n v0 a0 m w (i + 1) = bV n v0 a0 m w i := by
  unfold bV
  by_cases h : i ≤ v0
  · rw [if_pos (by omega),if_pos h]
  · rw [if_neg (by omega),if_neg h]
theorem bA_own {v0 a0 i : Nat} {w : Wrk} (c : ¬ i = v0) : bA v0 a0 w (i + 1) = bA v0 a0 w i := by
  unfold bA
  by_cases h : i ≤ v0
  · rw [if_pos (by omega),if_pos h]
  · rw [if_neg (by omega),if_neg h]
theorem bL_own {a0 k : Nat} {V : Vol} (c : ¬ k = a0) : bL a0 V (k + 1) = bL a0 V k := by
  unfold bL
  by_cases h : k ≤ a0
  · rw [if_pos (by omega),if_pos h]
  · rw [if_neg (by omega),if_neg h]
theorem bV_i {n i a0 m : Nat} {w : Wrk} : bV n i a0 m w i = [] := if_pos (Nat.le_refl _)
theorem bA_i {i a0 : Nat} {w : Wrk} : bA i a0 w i = [] := if_pos (Nat.le_refl _)
theorem bL_i {k : Nat} {V : Vol} : bL k V k = [] := if_pos (Nat.le_refl _)
theorem bV_S {n i a0 m : Nat} {w : Wrk} : bV n i a0 m w (i + 1) = fA n a0 m (gt w i) := if_neg (by omega)
theorem bA_S {i a0 : Nat} {w : Wrk} : bA i a0 w (i + 1) = cl pC (gt (gt w i) a0).2 := if_neg (by omega)
theorem bL_S {k : Nat} {V : Vol} : bL k V (k + 1) = cl pC (gt V k).2 := if_neg (by omega)
theorem wrs_pC6o (x : Psg) (l : List ID) : wrs (pC x) 6 (sl iD (.own 3) l) = some ((pC x).set 6 (sl iD (.own 3) l),.val undef) := rfl
theorem pC_set6 (x : Psg) (c : C) : ((pC x).set 6 c).set 6 (sl iD .no x.2.2.2.2) = pC x := rfl
theorem bsA_aCg (u : TypeDesc) (y : Nat) (t : List UInt8) (b n : Nat) (s : Nat × Nat) : bsA (some ⟨u,2,y,[str [],.slice none 0 0]⟩) 1 [(0,.agg [.val (str t),.gv b n s])] = some (vp (.sl .full 1 [.val (str t),.gv b n s])) := rfl
theorem bsA_vCg (u : TypeDesc) (y : Nat) (b n : Nat) (s : Nat × Nat) : bsA (some ⟨u,1,y,[.slice none 0 0]⟩) 1 [(0,.agg [.gv b n s])] = some (vp (.sl .full 1 [.gv b n s])) := rfl
attribute [go_sem high] wrs_pC6o bsA_aCg bsA_vCg
theorem gwQ_48 (u : TypeDesc) (b n : Nat) (x y : C) (h : n ≤ 1000000) : gwQ 48 (some ⟨u,2,40,[str [],.slice none 0 0]⟩) (.gv b n (2,48)) (.sl .full 1 [x,y]) = some (.ap (some (b,n)) (2,48) 1 fun _ => some [x,y]) := by
  simp only [gwQ,if_true,src?,C.sl?]
  rw [if_pos]
  simp only [decide_eq_true_eq]
  exact ⟨rfl,by decide,rfl,by omega,by omega,rfl⟩
theorem gwQ_46 (u : TypeDesc) (b n : Nat) (x : C) (h : n ≤ 1000000) : gwQ 46 (some ⟨u,1,24,[.slice none 0 0]⟩) (.gv b n (1,46)) (.sl .full 1 [x]) = some (.ap (some (b,n)) (1,46) 1 fun _ => some [x]) := by
  simp only [gwQ,if_true,src?,C.sl?]
  rw [if_pos]
  simp only [decide_eq_true_eq]
  exact ⟨rfl,by decide,rfl,by omega,by omega,rfl⟩
theorem live_set {l : List C} (h : liveC (some l) = some l) (i b n : Nat) (s : Nat × Nat) : liveC (some (l.set i (.gv b n s))) = some (l.set i (.gv b n s)) := by
  cases l with
  | nil => rfl
  | cons x l =>
    cases i with
    | zero => rfl
    | succ i =>
      cases x with
      | tup xs => cases h
      | _ => rfl
theorem live_fV (n v0 m : Nat) (w : Wrk) : liveC (some (fV n v0 m w)) = some (fV n v0 m w) := live_set (live_cl vC w) ..
theorem live_fA (n v0 m : Nat) (w : Vol) : liveC (some (fA n v0 m w)) = some (fA n v0 m w) := live_set (live_cl aC w) ..
theorem fV_noR (n v0 m : Nat) (w : Wrk) : (fV n v0 m w).map C.noR = fV n v0 m w := by unfold fV; rw [List.map_set,cl_noR]; rfl
theorem fA_noR (n v0 m : Nat) (w : Vol) : (fA n v0 m w).map C.noR = fA n v0 m w := by unfold fA; rw [List.map_set,cl_noR]; rfl
theorem len_fV (n v0 m : Nat) (w : Wrk) : (fV n v0 m w).length = w.length := by unfold fV; rw [List.length_set,cl_len (f := vC),Nat.mul_one]
theorem len_fA (n v0 m : Nat) (w : Vol) : (fA n v0 m w).length = w.length * 2 := by unfold fA; rw [List.length_set,cl_len (f := aC)]
theorem mvs_set (ρ : List Nat) (x : C) : ∀ (l : List C) (i : Nat),mvCs ρ (l.set i x) = (mvCs ρ l).set i (mvC ρ x)
  | [],_ => rfl
  | y :: l,0 => rfl
  | y :: l,i + 1 => by simp only [List.set_cons_succ,mvCs,mvs_set ρ x l i]
theorem mv_fV {ρ : List Nat} {n v0 m : Nat} {w : Wrk} (h : ∀ m,mvC ρ (.gv (n + 1) m (2,48)) = .gv (n + 1) m (2,48)) : mvCs ρ (fV n v0 m w) = fV n v0 m w := by unfold fV; rw [mvs_set,mvCs_cl,h]
theorem mv_fA {ρ : List Nat} {n v0 m : Nat} {w : Vol} (h : ∀ m,mvC ρ (.gv (n + 2) m (7,37)) = .gv (n + 2) m (7,37)) : mvCs ρ (fA n v0 m w) = fA n v0 m w := by unfold fA; rw [mvs_set,mvCs_cl,h]
theorem mv_bV {ρ : List Nat} {n v0 a0 m i : Nat} {w : Wrk} (h : ∀ m,mvC ρ (.gv (n + 2) m (7,37)) = .gv (n + 2) m (7,37)) : mvCs ρ (bV n v0 a0 m w i) = bV n v0 a0 m w i := by unfold bV; split; rfl; exact mv_fA h
theorem mv_bA {ρ : List Nat} {v0 a0 i : Nat} {w : Wrk} : mvCs ρ (bA v0 a0 w i) = bA v0 a0 w i := by unfold bA; split; rfl; exact mvCs_cl ..
theorem mv_bL {ρ : List Nat} {a0 i : Nat} {w : Vol} : mvCs ρ (bL a0 w i) = bL a0 w i := by unfold bL; split; rfl; exact mvCs_cl ..
theorem fV_pre (n i m : Nat) (w : Wrk) : fV n i m (w.take i) = cl vC (w.take i) := by
  unfold fV; rw [List.set_eq_of_length_le]; rw [cl_len (f := vC),List.length_take]; omega
theorem fA_pre (n i m : Nat) (w : Vol) : fA n i m (w.take i) = cl aC (w.take i) := by
  unfold fA; rw [List.set_eq_of_length_le]; rw [cl_len (f := aC),List.length_take]; omega
theorem noRefs_set (k : Nat) (x : C) (hx : noRef k x = true) : ∀ (l : List C) (i : Nat),noRefs k l = true → noRefs k (l.set i x) = true
  | [],_,h => h
  | y :: l,0,h => by simp only [List.set_cons_zero,noRefs,Bool.and_eq_true] at h ⊢; exact ⟨hx,h.2⟩
  | y :: l,i + 1,h => by simp only [List.set_cons_succ,noRefs,Bool.and_eq_true] at h ⊢; exact ⟨h.1,noRefs_set k x hx l i h.2⟩
section
variable (cx : Cx) (apps : List Nat) (dsts : List (Option Nat)) (l : List Oper) (id' : Nat) (d : Option Nat) (e : List (Nat × C)) (h : Hp) (fs : List FP) (K : List FP → St → Prop)
theorem stAB_gen (b n m k e' : Nat) (cells cs : List C) (h1 : cells.map C.noR = cells) (h2 : cs.map C.noR = cs) (hn : n * k = cells.length) (hm : 0 < m) (hk : 0 < k) :
    stAB cx apps dsts l id' d e h fs K b n (k,e') m cs (some cells) = run cx apps dsts l id' (mkE d (.gv h.length (n + m) (k,e')) e) (h.set b (some deadC) ++ [some (cells ++ cs)]) ((4,0) :: fs) K := by
  have hml : k ≤ m * k := by
    have := Nat.mul_le_mul_right k (show 1 ≤ m by omega)
    omega
  unfold stAB
  simp only []
  rw [if_neg (by rw [← hn,Nat.add_mul]; omega),if_pos hn,List.map_append,h1,h2]
theorem stAB_aCg (b n : Nat) (V : Vol) (t : List UInt8) (b' n' : Nat) (s' : Nat × Nat) (hn : n * 2 = (cl aC V).length) : stAB cx apps dsts l id' d e h fs K b n (2,48) 1 [.val (str t),.gv b' n' s'] (some (cl aC V)) = run cx apps dsts l id' (mkE d (.gv h.length (n + 1) (2,48)) e) (h.set b (some deadC) ++ [some (cl aC V ++ [.val (str t),.gv b' n' s'])]) ((4,0) :: fs) K :=
  stAB_gen cx apps dsts l id' d e h fs K b n 1 2 48 _ _ (cl_noR ..) rfl hn (by decide) (by decide)
theorem stAB_vCg (b n : Nat) (V : Wrk) (b' n' : Nat) (s' : Nat × Nat) (hn : n * 1 = (cl vC V).length) : stAB cx apps dsts l id' d e h fs K b n (1,46) 1 [.gv b' n' s'] (some (cl vC V)) = run cx apps dsts l id' (mkE d (.gv h.length (n + 1) (1,46)) e) (h.set b (some deadC) ++ [some (cl vC V ++ [.gv b' n' s'])]) ((4,0) :: fs) K :=
  stAB_gen cx apps dsts l id' d e h fs K b n 1 1 46 _ _ (cl_noR ..) rfl hn (by decide) (by decide)
theorem stAB_fAc (b n : Nat) (n0 a0 m0 : Nat) (V : Vol) (x : Art) (hn : n * 2 = (fA n0 a0 m0 V).length) : stAB cx apps dsts l id' d e h fs K b n (2,48) 1 (cl aC [x]) (some (fA n0 a0 m0 V)) = run cx apps dsts l id' (mkE d (.gv h.length (n + 1) (2,48)) e) (h.set b (some deadC) ++ [some (fA n0 a0 m0 V ++ [.val (str x.1),sl pC .no x.2])]) ((4,0) :: fs) K :=
  stAB_gen cx apps dsts l id' d e h fs K b n 1 2 48 _ _ (fA_noR ..) rfl hn (by decide) (by decide)
theorem stAB_fVc (b n : Nat) (n0 a0 m0 : Nat) (V : Wrk) (x : Vol) (hn : n * 1 = (fV n0 a0 m0 V).length) : stAB cx apps dsts l id' d e h fs K b n (1,46) 1 (cl vC [x]) (some (fV n0 a0 m0 V)) = run cx apps dsts l id' (mkE d (.gv h.length (n + 1) (1,46)) e) (h.set b (some deadC) ++ [some (fV n0 a0 m0 V ++ [sl aC .no x])]) ((4,0) :: fs) K :=
  stAB_gen cx apps dsts l id' d e h fs K b n 1 1 46 _ _ (fV_noR ..) rfl hn (by decide) (by decide)
end
theorem mvs_appl (ρ : List Nat) (r : List C) : ∀ l : List C,mvCs ρ (l ++ r) = mvCs ρ l ++ mvCs ρ r
  | [] => rfl
  | x :: l => by simp only [List.cons_append,mvCs,mvs_appl ρ r l]
theorem mv_t2 (t : List UInt8) (n : Nat) : mvCs [0,7,2,3,4,5] [.val (str t),.gv 2 n (7,37)] = [.val (str t),.gv 2 n (7,37)] := rfl
theorem mv_t1 (t : List UInt8) (l : List Psg) : mvCs [0,7,2,3,4,5] [.val (str t),sl pC .no l] = [.val (str t),sl pC .no l] := by simp only [mvCs,mvC_sl,mvC]
theorem mv_v1 (n : Nat) : mvCs [6,1,2,3,4] [.gv 1 n (2,48)] = [.gv 1 n (2,48)] := rfl
theorem mv_v0 (l : Vol) : mvCs [6,1,2,3,4] [sl aC .no l] = [sl aC .no l] := by simp only [mvCs,mvC_sl]
theorem bL_all (a0 : Nat) (V : Vol) : bL a0 V V.length = cl pC (gt V a0).2 := by
  unfold bL
  split
  · rename_i h
    have : gt V a0 = default := by unfold gt List.getD; rw [List.getElem?_eq_none h]; rfl
    rw [this]; rfl
  · rfl
theorem bV_all (n v0 a0 m : Nat) (w : Wrk) : bV n v0 a0 m w w.length = fA n a0 m (gt w v0) := by
  unfold bV
  split
  · rename_i h
    have : gt w v0 = default := by unfold gt List.getD; rw [List.getElem?_eq_none h]; rfl
    rw [this]; rfl
  · rfl
theorem bA_all (v0 a0 : Nat) (w : Wrk) : bA v0 a0 w w.length = cl pC (gt (gt w v0) a0).2 := by
  unfold bA
  split
  · rename_i h
    have : gt w v0 = default := by unfold gt List.getD; rw [List.getElem?_eq_none h]; rfl
    rw [this]; rfl
  · rfl
attribute [go_sem] live_fV live_fA fV_noR fA_noR len_fV len_fA gwQ_48 gwQ_46 stAB_aCg stAB_vCg stAB_fAc stAB_fVc
theorem X_fc20f {p : Prop} (e : p := by intro KZ hZ; simp -implicitDefEqProofs (maxSteps := 2000000) (disch := first | omega | (simp only [go_sem,lA,lD,lT,hVl,hLl,hwl,List.length_take] <;> omega) | decide) only [go_sem,↓reduceIte,Nat.reduceEqDiff,reduceCtorEq,Nat.reduceLT,Nat.reduceBEq,Nat.reduceAdd,hVx,hLx,c1,c2,hy]; with_reducible exact hZ) : p := e
theorem F_fc20f {p : Prop} (e : p := by simp -implicitDefEqProofs (disch := first | omega | (simp only [go_sem,lA,lD,lT,hVl,hLl,hwl,List.length_take] <;> omega) | decide) only [go_sem,↓reduceIte,Nat.reduceEqDiff,reduceCtorEq]; all_goals (rfl)) : p := e
theorem fc20f {gl : Nat → C} {M : Nat} {pu : Nat → List C → Option C} (hcx : CxOK (cxP gl M pu)) (w : Wrk) (v0 a0 : Nat) (hw : WG w) : FC Tryd.prog gl 20 [.agg [sl vC .no w]] [] (.agg [.gv 0 w.length (1,46)]) [some (fV 0 v0 (gt w v0).length w),some (fA 0 a0 (gt (gt w v0) a0).2.length (gt w v0)),some (cl pC (gt (gt w v0) a0).2),some [.gv 0 w.length (1,46)]] := by
 replace hcx := hcx.reN (M := 87)
 refine FC.ofH (cx := cxP gl 87 pu) (rs := [.cell 2 29]) rfl Tryd.func20 rfl rfl rfl (by simp only [List.length_cons,List.length_nil]; decide) ?_
 simp only [ini,go_sem]
 have c1 := True.intro
 have c2 := True.intro
 have hy := True.intro
 have hwl := hw.n
 have hVx := True.intro
 have hLx := True.intro
 have hVl := True.intro
 have hLl := True.intro
 refine Tr.w hcx [] _ [none,none] rfl rfl rfl ?_ X_fc20f
 refine Tr.f1 hcx 0 [sl vC .no w] ?_
 refine Tr.w hcx [] _ [none] rfl rfl rfl ?_ X_fc20f
 refine Tr.seqK fun K1 hK1 => ?_
 refine Tr.w hcx [] _ [] rfl rfl rfl ?_ X_fc20f
 refine Tr.k [1,2,3,4] ?_
 refine Tr.blk ?_
 refine Tr.k [1,2,3,4] ?_
 refine Tr.m1 hcx [1,2] ?_
 refine Tr.virt ?_
 refine Tr.virt ?_
 refine Tr.virt ?_
 simp only [List.cons_append,List.nil_append]
 refine Tr.bxc 1 0 (.gv 2 0 (1,46)) _ rfl rfl (CLe.nilG ..) rfl ?_
 simp only [List.set_cons_succ,List.set_cons_zero]
 refine Tr.m1 hcx [2,3,4,0,1] ?_
 refine Tr.loopI (α := Nat) (fun a => [(1,?v1_1),(2,?v2_1),(3,?v3_1),(4,.val (nI a))]) (fun a => [some (fV 0 v0 (gt w v0).length (w.take a)),some (bV 0 v0 a0 (gt (gt w v0) a0).2.length w a),some (bA v0 a0 w a),some [.val (.slice none 0 0)],some [.gv 0 a (1,46)]]) (fun a => a ≤ w.length) (fun a => w.length - a) (0) (Nat.zero_le _) ?le_1 ?hh_1 ?bd_1
 case hh_1 => exact rfl
 case le_1 => exact LT
 rintro i hi
 refine Tr.seqK fun K2 hK2 => ?_
 refine Tr.w hcx [] _ [] rfl rfl rfl ?_ X_fc20f
 refine Tr.cD rfl (fun hc15 => ?_) (fun hc15 => ?_)
 ·
  obtain ⟨V,hV⟩ : ∃ V,gt w i = V := ⟨_,rfl⟩
  have hVx := hV
  have hwv := (hw.v _ (gt_mem' w i hc15))
  rw [hV] at hwv
  have hVl := hwv.1
  refine Tr.skip ?_
  refine hK2 _ ?_
  refine Tr.seqK fun K3 hK3 => ?_
  refine Tr.blk ?_
  by_cases c1 : i = v0
  ·
   subst c1
   have c1 := True.intro
   simp only [bV_i,bA_i,fV_pre,hV]
   refine Tr.w hcx [] _ [none] rfl rfl rfl ?_ X_fc20f
   refine Tr.seqK fun K4 hK4 => ?_
   refine Tr.w hcx [] _ [] rfl rfl rfl ?_ X_fc20f
   refine Tr.k [1,2,3,4,5,6] ?_
   refine Tr.blk ?_
   refine Tr.bxc 5 0 (.gv 1 0 (2,48)) _ rfl rfl (CLe.nilG ..) rfl ?_
   simp only [List.set_cons_succ,List.set_cons_zero]
   refine Tr.loopI (α := Nat) (fun a => [(1,?v1_2),(2,?v2_2),(3,?v3_2),(4,?v4_2),(5,?v5_2),(6,.val (nI a))]) (fun a => [some (cl vC (w.take i)),some (fA 0 a0 (gt V a0).2.length (V.take a)),some (bL a0 V a),some [.val (.slice none 0 0)],some [.gv 0 i (1,46)],some [.gv 1 a (2,48)]]) (fun a => a ≤ V.length) (fun a => V.length - a) (0) (Nat.zero_le _) ?le_2 ?hh_2 ?bd_2
   case hh_2 => exact rfl
   case le_2 => exact LT
   rintro k hk
   refine Tr.seqK fun K5 hK5 => ?_
   refine Tr.w hcx [] _ [] rfl rfl rfl ?_ X_fc20f
   refine Tr.cD rfl (fun hc26 => ?_) (fun hc26 => ?_)
   ·
    obtain ⟨L,hL⟩ : ∃ L,(gt V k).2 = L := ⟨_,rfl⟩
    have hLx := hL
    have hwa := hwv.2 _ (gt_mem' V k hc26)
    rw [hL] at hwa
    have hLl := hwa.2.1
    refine Tr.skip ?_
    refine hK5 _ ?_
    refine Tr.k [1,2,3,4,5,6] ?_
    refine Tr.seqK fun K6 hK6 => ?_
    refine Tr.blk ?_
    by_cases c2 : k = a0
    ·
     subst c2
     have c2 := True.intro
     simp only [bL_i,fA_pre,hL]
     skip
     refine Tr.w hcx [] _ [none] rfl rfl rfl ?_ X_fc20f
     refine Tr.k [1,2,3,4,5,6,7] ?_
     refine Tr.w hcx [1000049] _ [] rfl rfl rfl ?_ X_fc20f
     refine Tr.seqK fun K7 hK7 => ?_
     refine Tr.w hcx [] _ [] rfl rfl rfl ?_ X_fc20f
     refine Tr.k [1,2,3,4,5,6,7,8,9] ?_
     refine Tr.blk ?_
     refine Tr.bxc 6 1 (.gv 2 0 (7,37)) _ rfl rfl (CLe.nilG ..) rfl ?_
     simp only [List.set_cons_succ,List.set_cons_zero]
     refine Tr.loopI (α := Nat) (fun a => [(1,?v1_3),(2,?v2_3),(3,?v3_3),(4,?v4_3),(5,?v5_3),(6,?v6_3),(7,?v7_3),(8,?v8_3),(9,.val (nI a))]) (fun a => [some (cl vC (w.take i)),some (cl aC (V.take k)),some (cl pC (L.take a)),some [.val (.slice none 0 0)],some [.gv 0 i (1,46)],some [.gv 1 k (2,48)],some [.val (str (gt V k).1),.gv 2 a (7,37)]]) (fun a => a ≤ L.length) (fun a => L.length - a) (0) (Nat.zero_le _) ?le_3 ?hh_3 ?bd_3
     case hh_3 => exact rfl
     case le_3 => exact LT
     rintro j hj
     refine Tr.seqK fun K8 hK8 => ?_
     refine Tr.w hcx [] _ [] rfl rfl rfl ?_ X_fc20f
     refine Tr.cD rfl (fun hc53 => ?_) (fun hc53 => ?_)
     ·
      have hPg := (hwa.2.2 _ (gt_mem' L j hc53)).2.1
      refine Tr.skip ?_
      refine hK8 _ ?_
      refine Tr.seqK fun K9 hK9 => ?_
      refine Tr.blk ?_
      refine Tr.w hcx [] _ [none] rfl rfl rfl ?_ X_fc20f
      refine Tr.w hcx [60] _ [] rfl rfl rfl ?_ X_fc20f
      refine Tr.k [1,2,3,4,5,6,7,8,9,10] ?_
      refine Tr.bxc 7 6 (sl iD .no (gt L j).2.2.2.2) ((pC (gt L j)).set 6 (sl iD (.own 3) (gt L j).2.2.2.2)) rfl rfl (CLe.noR (sl iD (.own 3) _)) rfl ?_
      simp only [pC_set6]
      simp only [List.set_cons_succ,List.set_cons_zero]
      refine Tr.vG hcx [72] [69] _ [] rfl rfl rfl ?_ X_fc20f
      refine hK9 _ ?_
      refine Tr.k [1,2,3,4,5,6,7,8,9] ?_
      refine Tr.m1 hcx [0,1,8,3,4,5,6] ?_
      refine Tr.v hcx [1000055] _ [] rfl rfl rfl ?_ X_fc20f
      exact ⟨j + 1,⟨(by omega),O1⟩,LT,by simp only [take_sn L _ hc53,List.length_take,Nat.min_eq_left (show j + 1 ≤ L.length by omega)]⟩
     refine Tr.exit ?_
     refine hK7 _ ?_
     obtain rfl : j = L.length := by omega
     rw [List.take_length]
     refine Tr.vG hcx [78] [75] _ [] rfl rfl rfl ?_ X_fc20f
     refine hK6 _ ?_
     refine Tr.k [1,2,3,4,5,6] ?_
     refine Tr.m1 hcx [0,7,2,3,4,5] ?_
     simp only [mvs_appl,mvCs_cl,mv_t2]
     refine Tr.v hcx [1000028] _ [] rfl rfl rfl ?_ X_fc20f
     exact ⟨k + 1,⟨(by omega),O1⟩,LT,by simp only [← fA_foc hc26,bL_S,fA_pre,hLx] <;> rfl⟩
    skip
    skip
    refine Tr.w hcx [] _ [none] rfl rfl rfl ?_ X_fc20f
    refine Tr.k [1,2,3,4,5,6,7] ?_
    refine Tr.w hcx [1000049] _ [] rfl rfl rfl ?_ X_fc20f
    refine Tr.seqK fun K10 hK10 => ?_
    refine Tr.w hcx [] _ [] rfl rfl rfl ?_ X_fc20f
    refine Tr.k [1,2,3,4,5,6,7,8,9] ?_
    refine Tr.blk ?_
    refine Tr.bxc 6 1 (sl pC (.own 7) []) _ rfl rfl (CLe_sln rfl) rfl ?_
    simp only [List.set_cons_succ,List.set_cons_zero]
    refine Tr.loopI (α := Nat) (fun a => [(1,?v1_4),(2,?v2_4),(3,?v3_4),(4,?v4_4),(5,?v5_4),(6,?v6_4),(7,?v7_4),(8,?v8_4),(9,.val (nI a))]) (fun a => [some (cl vC (w.take i)),some (fA 0 a0 (gt V a0).2.length (V.take k)),some (bL a0 V k),some [.val (.slice none 0 0)],some [.gv 0 i (1,46)],some [.gv 1 k (2,48)],some [.val (str (gt V k).1),sl pC (.own 7) (L.take a)]]) (fun a => a ≤ L.length) (fun a => L.length - a) (0) (Nat.zero_le _) ?le_4 ?hh_4 ?bd_4
    case hh_4 => exact rfl
    case le_4 => exact LT
    rintro j hj
    refine Tr.seqK fun K11 hK11 => ?_
    refine Tr.w hcx [] _ [] rfl rfl rfl ?_ X_fc20f
    refine Tr.cD rfl (fun hc53 => ?_) (fun hc53 => ?_)
    ·
     have hPg := (hwa.2.2 _ (gt_mem' L j hc53)).2.1
     refine Tr.skip ?_
     refine hK11 _ ?_
     refine Tr.seqK fun K12 hK12 => ?_
     refine Tr.blk ?_
     refine Tr.w hcx [] _ [none] rfl rfl rfl ?_ X_fc20f
     refine Tr.w hcx [60] _ [] rfl rfl rfl ?_ X_fc20f
     refine Tr.k [1,2,3,4,5,6,7,8,9,10] ?_
     refine Tr.bxc 7 6 (sl iD .no (gt L j).2.2.2.2) ((pC (gt L j)).set 6 (sl iD (.own 3) (gt L j).2.2.2.2)) rfl rfl (CLe.noR (sl iD (.own 3) _)) rfl ?_
     simp only [pC_set6]
     simp only [List.set_cons_succ,List.set_cons_zero]
     refine Tr.v hcx [69] _ [] rfl rfl rfl ?_ X_fc20f
     refine hK12 _ ?_
     refine Tr.k [1,2,3,4,5,6,7,8,9] ?_
     refine Tr.m1 hcx [0,1,2,3,4,5,6] ?_
     simp only [mv_fA (ρ := [0,1,2,3,4,5,6]) (n := 0) (fun _ => rfl),mv_bL (ρ := [0,1,2,3,4,5,6])]
     refine Tr.v hcx [1000055] _ [] rfl rfl rfl ?_ X_fc20f
     exact ⟨j + 1,⟨(by omega),O1⟩,LT,by simp only [← take_sn L _ hc53] <;> rfl⟩
    refine Tr.exit ?_
    refine hK10 _ ?_
    obtain rfl : j = L.length := by omega
    rw [List.take_length]
    refine Tr.vG hcx [78] [75] _ [] rfl rfl rfl ?_ X_fc20f
    refine hK6 _ ?_
    refine Tr.k [1,2,3,4,5,6] ?_
    refine Tr.m1 hcx [0,7,2,3,4,5] ?_
    simp only [mvs_appl,mv_t1,mv_bL,mv_fA (ρ := [0,7,2,3,4,5]) (n := 0) (fun _ => rfl)]
    refine Tr.v hcx [1000028] _ [] rfl rfl rfl ?_ X_fc20f
    exact ⟨k + 1,⟨(by omega),O1⟩,LT,by simp only [← fA_own hc26 c2,bL_own c2,hLx] <;> rfl⟩
   refine Tr.exit ?_
   refine hK4 _ ?_
   obtain rfl : k = V.length := by omega
   rw [List.take_length]
   refine Tr.vG hcx [84] [81] _ [] rfl rfl rfl ?_ X_fc20f
   refine hK3 _ ?_
   refine Tr.k [1,2,3,4] ?_
   refine Tr.m1 hcx [6,1,2,3,4] ?_
   simp only [mvs_appl,mvCs_cl,mv_v1,mv_bL,mv_fA (ρ := [6,1,2,3,4]) (n := 0) (fun _ => rfl)]
   refine Tr.v hcx [1000017] _ [] rfl rfl rfl ?_ X_fc20f
   exact ⟨i + 1,⟨(by omega),O1⟩,LT,by simp only [← fV_foc hc15,bV_S,bA_S,fV_pre,bL_all,hVx] <;> rfl⟩
  skip
  refine Tr.w hcx [] _ [none] rfl rfl rfl ?_ X_fc20f
  refine Tr.seqK fun K13 hK13 => ?_
  refine Tr.w hcx [] _ [] rfl rfl rfl ?_ X_fc20f
  refine Tr.k [1,2,3,4,5,6] ?_
  refine Tr.blk ?_
  refine Tr.bxc 5 0 (sl aC (.own 2) []) _ rfl rfl (CLe_sln rfl) rfl ?_
  simp only [List.set_cons_succ,List.set_cons_zero]
  refine Tr.loopI (α := Nat) (fun a => [(1,?v1_5),(2,?v2_5),(3,?v3_5),(4,?v4_5),(5,?v5_5),(6,.val (nI a))]) (fun a => [some (fV 0 v0 (gt w v0).length (w.take i)),some (bV 0 v0 a0 (gt (gt w v0) a0).2.length w i),some (bA v0 a0 w i),some [.val (.slice none 0 0)],some [.gv 0 i (1,46)],some [sl aC (.own 2) (V.take a)]]) (fun a => a ≤ V.length) (fun a => V.length - a) (0) (Nat.zero_le _) ?le_5 ?hh_5 ?bd_5
  case hh_5 => exact rfl
  case le_5 => exact LT
  rintro k hk
  refine Tr.seqK fun K14 hK14 => ?_
  refine Tr.w hcx [] _ [] rfl rfl rfl ?_ X_fc20f
  refine Tr.cD rfl (fun hc26 => ?_) (fun hc26 => ?_)
  ·
   obtain ⟨L,hL⟩ : ∃ L,(gt V k).2 = L := ⟨_,rfl⟩
   have hLx := hL
   have hwa := hwv.2 _ (gt_mem' V k hc26)
   rw [hL] at hwa
   have hLl := hwa.2.1
   refine Tr.skip ?_
   refine hK14 _ ?_
   refine Tr.k [1,2,3,4,5,6] ?_
   refine Tr.seqK fun K15 hK15 => ?_
   refine Tr.blk ?_
   have c2 := True.intro
   refine Tr.w hcx [] _ [none] rfl rfl rfl ?_ X_fc20f
   refine Tr.k [1,2,3,4,5,6,7] ?_
   refine Tr.w hcx [1000049] _ [] rfl rfl rfl ?_ X_fc20f
   refine Tr.seqK fun K16 hK16 => ?_
   refine Tr.w hcx [] _ [] rfl rfl rfl ?_ X_fc20f
   refine Tr.k [1,2,3,4,5,6,7,8,9] ?_
   refine Tr.blk ?_
   refine Tr.bxc 6 1 (sl pC (.own 7) []) _ rfl rfl (CLe_sln rfl) rfl ?_
   simp only [List.set_cons_succ,List.set_cons_zero]
   refine Tr.loopI (α := Nat) (fun a => [(1,?v1_6),(2,?v2_6),(3,?v3_6),(4,?v4_6),(5,?v5_6),(6,?v6_6),(7,?v7_6),(8,?v8_6),(9,.val (nI a))]) (fun a => [some (fV 0 v0 (gt w v0).length (w.take i)),some (bV 0 v0 a0 (gt (gt w v0) a0).2.length w i),some (bA v0 a0 w i),some [.val (.slice none 0 0)],some [.gv 0 i (1,46)],some [sl aC (.own 2) (V.take k)],some [.val (str (gt V k).1),sl pC (.own 7) (L.take a)]]) (fun a => a ≤ L.length) (fun a => L.length - a) (0) (Nat.zero_le _) ?le_6 ?hh_6 ?bd_6
   case hh_6 => exact rfl
   case le_6 => exact LT
   rintro j hj
   refine Tr.seqK fun K17 hK17 => ?_
   refine Tr.w hcx [] _ [] rfl rfl rfl ?_ X_fc20f
   refine Tr.cD rfl (fun hc53 => ?_) (fun hc53 => ?_)
   ·
    have hPg := (hwa.2.2 _ (gt_mem' L j hc53)).2.1
    refine Tr.skip ?_
    refine hK17 _ ?_
    refine Tr.seqK fun K18 hK18 => ?_
    refine Tr.blk ?_
    refine Tr.w hcx [] _ [none] rfl rfl rfl ?_ X_fc20f
    refine Tr.w hcx [60] _ [] rfl rfl rfl ?_ X_fc20f
    refine Tr.k [1,2,3,4,5,6,7,8,9,10] ?_
    refine Tr.bxc 7 6 (sl iD .no (gt L j).2.2.2.2) ((pC (gt L j)).set 6 (sl iD (.own 3) (gt L j).2.2.2.2)) rfl rfl (CLe.noR (sl iD (.own 3) _)) rfl ?_
    simp only [pC_set6]
    simp only [List.set_cons_succ,List.set_cons_zero]
    refine Tr.v hcx [69] _ [] rfl rfl rfl ?_ X_fc20f
    refine hK18 _ ?_
    refine Tr.k [1,2,3,4,5,6,7,8,9] ?_
    refine Tr.m1 hcx [0,1,2,3,4,5,6] ?_
    simp only [mv_fV (ρ := [0,1,2,3,4,5,6]) (n := 0) (fun _ => rfl),mv_bV (ρ := [0,1,2,3,4,5,6]) (n := 0) (fun _ => rfl),mv_bA (ρ := [0,1,2,3,4,5,6])]
    refine Tr.v hcx [1000055] _ [] rfl rfl rfl ?_ X_fc20f
    exact ⟨j + 1,⟨(by omega),O1⟩,LT,by simp only [← take_sn L _ hc53] <;> rfl⟩
   refine Tr.exit ?_
   refine hK16 _ ?_
   obtain rfl : j = L.length := by omega
   rw [List.take_length]
   refine Tr.v hcx [75] _ [] rfl rfl rfl ?_ X_fc20f
   refine hK15 _ ?_
   refine Tr.k [1,2,3,4,5,6] ?_
   refine Tr.m1 hcx [0,1,2,3,4,5] ?_
   simp only [mv_fV (ρ := [0,1,2,3,4,5]) (n := 0) (fun _ => rfl),mv_bV (ρ := [0,1,2,3,4,5]) (n := 0) (fun _ => rfl),mv_bA (ρ := [0,1,2,3,4,5])]
   refine Tr.v hcx [1000028] _ [] rfl rfl rfl ?_ X_fc20f
   exact ⟨k + 1,⟨(by omega),O1⟩,LT,by simp only [← take_sn V _ hc26,← hL] <;> rfl⟩
  refine Tr.exit ?_
  refine hK13 _ ?_
  obtain rfl : k = V.length := by omega
  rw [List.take_length]
  refine Tr.vG hcx [84] [81] _ [] rfl rfl rfl ?_ X_fc20f
  refine hK3 _ ?_
  refine Tr.k [1,2,3,4] ?_
  refine Tr.m1 hcx [6,1,2,3,4] ?_
  simp only [mvs_appl,mv_v0,mv_bA,mv_bV (ρ := [6,1,2,3,4]) (n := 0) (fun _ => rfl),mv_fV (ρ := [6,1,2,3,4]) (n := 0) (fun _ => rfl)]
  refine Tr.v hcx [1000017] _ [] rfl rfl rfl ?_ X_fc20f
  exact ⟨i + 1,⟨(by omega),O1⟩,LT,by simp only [← fV_own hc15 c1,bV_own c1,bA_own c1,hVx] <;> rfl⟩
 refine Tr.exit ?_
 refine hK1 _ ?_
 obtain rfl : i = w.length := by omega
 rw [List.take_length]
 refine Tr.w hcx [] _ [] rfl rfl rfl ?_ X_fc20f
 refine Tr.k [2] ?_
 refine Tr.m1 hcx [0,1,2,3] ?_
 simp only [bV_all,bA_all]
 simp only [mv_fV (ρ := [0,1,2,3]) (n := 0) (fun _ => rfl),mv_fA (ρ := [0,1,2,3]) (n := 0) (fun _ => rfl),mvCs_cl]
 exact Tr.ret F_fc20f
end Go.Sx
namespace Go.Sx
open Go.RowKit Go.Proofs
set_option maxRecDepth 100000
set_option maxHeartbeats 8000000
theorem rdc_set_eq {l : List C} {k : Nat} {x : C} (h : k < l.length) (hx : x.noR = x) : rdc (l.set k x) k = some x := by
  unfold rdc; rw [List.getElem?_set_self h]; simp [hx]
theorem rdc_set_ne {l : List C} {k j : Nat} {x : C} (h : ¬ j = k) : rdc (l.set k x) j = rdc l j := by
  unfold rdc; rw [List.getElem?_set_ne (fun e => h e.symm)]
theorem rdc_fV_eq {n m i : Nat} {w : Wrk} (h : i < w.length) : rdc (fV n i m w) i = some (.gv (n + 1) m (2,48)) := rdc_set_eq (by rw [cl_len (f := vC),Nat.mul_one]; exact h) rfl
theorem rdc_fV_ne {n v0 m i : Nat} {w : Wrk} (h : i < w.length) (c : ¬ i = v0) : rdc (fV n v0 m w) i = some (sl aC .no (gt w i)) := (rdc_set_ne c).trans (rdc_clvC_0 w i h)
theorem rdc_fA_eq {n m k : Nat} {V : Vol} (h : k < V.length) : rdc (fA n k m V) (k * 2 + 1) = some (.gv (n + 2) m (7,37)) := rdc_set_eq (by rw [cl_len (f := aC)]; omega) rfl
theorem rdc_fA_ne {n a0 m k : Nat} {V : Vol} (h : k < V.length) (c : ¬ k = a0) : rdc (fA n a0 m V) (k * 2 + 1) = some (sl pC .no (gt V k).2) := (rdc_set_ne (by omega)).trans (rdc_claC_1 V k h)
theorem fV_nr (k n v0 m : Nat) (w : Wrk) (h : n + 1 < k) : noRefs k (fV n v0 m w) = true := noRefs_set k _ (by simp [noRef,h]) _ _ (noRefs_cl vC k w)
theorem fA_nr (k n v0 m : Nat) (w : Vol) (h : n + 2 < k) : noRefs k (fA n v0 m w) = true := noRefs_set k _ (by simp [noRef,h]) _ _ (noRefs_cl aC k w)
theorem row3_nr {v0 m a0 m2 : Nat} (w : Wrk) (V : Vol) (l : List Psg) (k : Nat) (h : 2 < k) : nrH k [some (fV 0 v0 m w),some (fA 0 a0 m2 V),some (cl pC l)] = true := by
  simp only [nrH,fV_nr k 0 v0 m w (by omega),fA_nr k 0 a0 m2 V (by omega),noRefs_cl pC k l,Bool.and_self]
theorem X_fc14b {p : Prop} (e : p := by intro KZ hZ; simp -implicitDefEqProofs (maxSteps := 2000000) (disch := first | omega | (simp only [go_sem,lA,lD,lT,hVl,hwl] <;> omega) | decide) only [go_sem,↓reduceIte,Nat.reduceEqDiff,reduceCtorEq,Nat.reduceLT,Nat.reduceBEq,Nat.reduceAdd,hVV,hR,hR2,c1,c2,hy]; with_reducible exact hZ) : p := e
theorem F_fc14b {p : Prop} (e : p := by simp -implicitDefEqProofs (disch := first | omega | (simp only [go_sem,lA,lD,lT,hVl,hwl] <;> omega) | decide) only [go_sem,↓reduceIte,Nat.reduceEqDiff,reduceCtorEq]; all_goals (exact ⟨rfl,rfl⟩)) : p := e
theorem fc14b {gl : Nat → C} {M : Nat} {pu : Nat → List C → Option C} (hcx : CxOK (cxP gl M pu)) (w : Wrk) (v0 a0 : Nat) (hw : WG w) : FC Tryd.prog gl 14 [.agg [.gv 0 w.length (1,46)]] [some (fV 0 v0 (gt w v0).length w),some (fA 0 a0 (gt (gt w v0) a0).2.length (gt w v0)),some (cl pC (gt (gt w v0) a0).2)] (sl pC (.own 7) (alW w)) [some (fV 0 v0 (gt w v0).length w),some (fA 0 a0 (gt (gt w v0) a0).2.length (gt w v0)),some (cl pC (gt (gt w v0) a0).2)] := by
 replace hcx := hcx.reN (M := 37)
 refine FC.ofT (cx := cxP gl 37 pu) (rs := [.tmp 2]) rfl Tryd.func14 rfl rfl rfl (by simp only [List.length_cons,List.length_nil]; decide) (by simp only [go_sem]) (row3_nr _ _ _ 3 (by decide)) ?_
 simp only [ini,go_sem]
 have c1 := True.intro
 have c2 := True.intro
 have hy := True.intro
 have hwl := hw.n
 have hal := hw.al
 have hVV := True.intro
 have hVl := True.intro
 have hR := True.intro
 have hR2 := True.intro
 refine Tr.w hcx [] _ [none] rfl rfl rfl ?_ X_fc14b
 refine Tr.w hcx [] _ [] rfl rfl rfl ?_ X_fc14b
 refine Tr.seqK fun K1 hK1 => ?_
 refine Tr.w hcx [] _ [] rfl rfl rfl ?_ X_fc14b
 refine Tr.k [1,3,4] ?_
 refine Tr.blk ?_
 refine Tr.loopI (α := Nat) (fun a => [(1,?v1_1),(3,sl pC (.own 7) (pV w a)),(4,.val (nI a))]) (fun a => [some (fV 0 v0 (gt w v0).length w),some (fA 0 a0 (gt (gt w v0) a0).2.length (gt w v0)),some (cl pC (gt (gt w v0) a0).2),some [.gv 0 w.length (1,46)]]) (fun a => a ≤ w.length) (fun a => w.length - a) (0) (Nat.zero_le _) ?le_1 ?hh_1 ?bd_1
 case hh_1 => exact rfl
 case le_1 => exact LT
 rintro v hv
 have hp := pV_le w v
 refine Tr.seqK fun K2 hK2 => ?_
 refine Tr.w hcx [] _ [] rfl rfl rfl ?_ X_fc14b
 refine Tr.cD rfl (fun hc10 => ?_) (fun hc10 => ?_)
 ·
  obtain ⟨V,hV⟩ : ∃ V,gt w v = V := ⟨_,rfl⟩
  have hVV := hV
  have hwv := hw.v _ (gt_mem' w v hc10)
  rw [hV] at hwv
  have hVl := hwv.1
  refine Tr.skip ?_
  refine hK2 _ ?_
  refine Tr.seqK fun K3 hK3 => ?_
  refine Tr.blk ?_
  by_cases c1 : v = v0
  ·
   subst c1
   have c1 := True.intro
   simp only [hV]
   have hR := rdc_fV_eq (n := 0) (m := V.length) hc10
   refine Tr.w hcx [] _ [] rfl rfl rfl ?_ X_fc14b
   refine Tr.k [1,3,4,5] ?_
   refine Tr.blk ?_
   refine Tr.loopI (α := Nat) (fun a => [(1,?v1_2),(3,sl pC (.own 7) (pV w v ++ pA V a)),(4,?v4_2),(5,.val (nI a))]) (fun a => [some (fV 0 v V.length w),some (fA 0 a0 (gt V a0).2.length V),some (cl pC (gt V a0).2),some [.gv 0 w.length (1,46)]]) (fun a => a ≤ V.length) (fun a => V.length - a) (0) (Nat.zero_le _) ?le_2 ?hh_2 ?bd_2
   case hh_2 => exact rfl
   case le_2 => (simp only [Le_nil,Le_cons,↓A_cons,↓reduceIte,Nat.reduceEqDiff,CLe_refl,CLe_top,CLe_full,CLe_nil,CLe_own,and_true,true_and]; all_goals (repeat' first | exact CLe.refl _ | exact True.intro | (refine CLe_sln ?_; first | rfl | (simp only [List.take_zero]; done)) | exact CLe_nI (by omega) | exact CLe_int (by omega) | exact CLe_inI (by omega) | exact CLe_nIi (by omega) | with_reducible apply And.intro)); all_goals (first | exact CLe.refl _ | (rw [show pA V 0 = [] from rfl,List.append_nil]; exact CLe.refl _))
   rintro k hk
   have hp2 := pVA_le w v (k + 1) hc10
   rw [hV] at hp2
   refine Tr.seqK fun K4 hK4 => ?_
   refine Tr.w hcx [] _ [] rfl rfl rfl ?_ X_fc14b
   refine Tr.cD rfl (fun hc21 => ?_) (fun hc21 => ?_)
   ·
    have hAk := (hwv.2 _ (gt_mem' V k hc21)).2.1
    rw [pA_S V k hc21,List.length_append] at hp2
    refine Tr.skip ?_
    refine hK4 _ ?_
    refine Tr.seqK fun K5 hK5 => ?_
    refine Tr.blk ?_
    by_cases c2 : k = a0
    ·
     subst c2
     have c2 := True.intro
     have hR2 := rdc_fA_eq (n := 0) (m := (gt V k).2.length) hc21
     skip
     refine Tr.v hcx [24,1000035] _ [] rfl rfl rfl ?_ X_fc14b
     refine hK5 _ ?_
     refine Tr.k [1,3,4,5] ?_
     refine Tr.v hcx [1000023] _ [] rfl rfl rfl ?_ X_fc14b
     refine ⟨k + 1,⟨(by omega),O1⟩,?_,rfl⟩
     (simp only [Le_nil,Le_cons,↓A_cons,↓reduceIte,Nat.reduceEqDiff,CLe_refl,CLe_top,CLe_full,CLe_nil,CLe_own,and_true,true_and]; all_goals (repeat' first | exact CLe.refl _ | exact True.intro | (refine CLe_sln ?_; first | rfl | (simp only [List.take_zero]; done)) | exact CLe_nI (by omega) | exact CLe_int (by omega) | exact CLe_inI (by omega) | exact CLe_nIi (by omega) | with_reducible apply And.intro))
     all_goals (first | (rw [pA_S V k hc21,List.append_assoc]; exact CLe.refl _) | exact CLe.refl _)
    have hR2 := rdc_fA_ne (n := 0) (m := (gt V a0).2.length) hc21 c2
    skip
    refine Tr.v hcx [24,1000035] _ [] rfl rfl rfl ?_ X_fc14b
    refine hK5 _ ?_
    refine Tr.k [1,3,4,5] ?_
    refine Tr.v hcx [1000023] _ [] rfl rfl rfl ?_ X_fc14b
    refine ⟨k + 1,⟨(by omega),O1⟩,?_,rfl⟩
    (simp only [Le_nil,Le_cons,↓A_cons,↓reduceIte,Nat.reduceEqDiff,CLe_refl,CLe_top,CLe_full,CLe_nil,CLe_own,and_true,true_and]; all_goals (repeat' first | exact CLe.refl _ | exact True.intro | (refine CLe_sln ?_; first | rfl | (simp only [List.take_zero]; done)) | exact CLe_nI (by omega) | exact CLe_int (by omega) | exact CLe_inI (by omega) | exact CLe_nIi (by omega) | with_reducible apply And.intro))
    all_goals (first | (rw [pA_S V k hc21,List.append_assoc]; exact CLe.refl _) | exact CLe.refl _)
   obtain rfl : k = V.length := by omega
   refine Tr.exit ?_
   refine hK3 _ ?_
   refine Tr.v hcx [1000012] _ [] rfl rfl rfl ?_ X_fc14b
   refine ⟨v + 1,⟨(by omega),O1⟩,?_,by simp only [hV]⟩
   (simp only [Le_nil,Le_cons,↓A_cons,↓reduceIte,Nat.reduceEqDiff,CLe_refl,CLe_top,CLe_full,CLe_nil,CLe_own,and_true,true_and]; all_goals (repeat' first | exact CLe.refl _ | exact True.intro | (refine CLe_sln ?_; first | rfl | (simp only [List.take_zero]; done)) | exact CLe_nI (by omega) | exact CLe_int (by omega) | exact CLe_inI (by omega) | exact CLe_nIi (by omega) | with_reducible apply And.intro))
   all_goals (first | (rw [pV_S w v hc10,hV]; exact CLe.refl _) | exact CLe.refl _)
  have hR := rdc_fV_ne (n := 0) (m := (gt w v0).length) hc10 c1
  rw [hV] at hR
  refine Tr.w hcx [] _ [] rfl rfl rfl ?_ X_fc14b
  refine Tr.k [1,3,4,5] ?_
  refine Tr.blk ?_
  refine Tr.loopI (α := Nat) (fun a => [(1,?v1_3),(3,sl pC (.own 7) (pV w v ++ pA V a)),(4,?v4_3),(5,.val (nI a))]) (fun a => [some (fV 0 v0 (gt w v0).length w),some (fA 0 a0 (gt (gt w v0) a0).2.length (gt w v0)),some (cl pC (gt (gt w v0) a0).2),some [.gv 0 w.length (1,46)]]) (fun a => a ≤ V.length) (fun a => V.length - a) (0) (Nat.zero_le _) ?le_3 ?hh_3 ?bd_3
  case hh_3 => exact rfl
  case le_3 => (simp only [Le_nil,Le_cons,↓A_cons,↓reduceIte,Nat.reduceEqDiff,CLe_refl,CLe_top,CLe_full,CLe_nil,CLe_own,and_true,true_and]; all_goals (repeat' first | exact CLe.refl _ | exact True.intro | (refine CLe_sln ?_; first | rfl | (simp only [List.take_zero]; done)) | exact CLe_nI (by omega) | exact CLe_int (by omega) | exact CLe_inI (by omega) | exact CLe_nIi (by omega) | with_reducible apply And.intro)); all_goals (first | exact CLe.refl _ | (rw [show pA V 0 = [] from rfl,List.append_nil]; exact CLe.refl _))
  rintro k hk
  have hp2 := pVA_le w v (k + 1) hc10
  rw [hV] at hp2
  refine Tr.seqK fun K6 hK6 => ?_
  refine Tr.w hcx [] _ [] rfl rfl rfl ?_ X_fc14b
  refine Tr.cD rfl (fun hc21 => ?_) (fun hc21 => ?_)
  ·
   have hAk := (hwv.2 _ (gt_mem' V k hc21)).2.1
   rw [pA_S V k hc21,List.length_append] at hp2
   refine Tr.skip ?_
   refine hK6 _ ?_
   refine Tr.seqK fun K7 hK7 => ?_
   refine Tr.blk ?_
   have c2 := True.intro
   refine Tr.v hcx [24,1000035] _ [] rfl rfl rfl ?_ X_fc14b
   refine hK7 _ ?_
   refine Tr.k [1,3,4,5] ?_
   refine Tr.v hcx [1000023] _ [] rfl rfl rfl ?_ X_fc14b
   refine ⟨k + 1,⟨(by omega),O1⟩,?_,rfl⟩
   (simp only [Le_nil,Le_cons,↓A_cons,↓reduceIte,Nat.reduceEqDiff,CLe_refl,CLe_top,CLe_full,CLe_nil,CLe_own,and_true,true_and]; all_goals (repeat' first | exact CLe.refl _ | exact True.intro | (refine CLe_sln ?_; first | rfl | (simp only [List.take_zero]; done)) | exact CLe_nI (by omega) | exact CLe_int (by omega) | exact CLe_inI (by omega) | exact CLe_nIi (by omega) | with_reducible apply And.intro))
   all_goals (first | (rw [pA_S V k hc21,List.append_assoc]; exact CLe.refl _) | exact CLe.refl _)
  obtain rfl : k = V.length := by omega
  refine Tr.exit ?_
  refine hK3 _ ?_
  refine Tr.v hcx [1000012] _ [] rfl rfl rfl ?_ X_fc14b
  refine ⟨v + 1,⟨(by omega),O1⟩,?_,rfl⟩
  (simp only [Le_nil,Le_cons,↓A_cons,↓reduceIte,Nat.reduceEqDiff,CLe_refl,CLe_top,CLe_full,CLe_nil,CLe_own,and_true,true_and]; all_goals (repeat' first | exact CLe.refl _ | exact True.intro | (refine CLe_sln ?_; first | rfl | (simp only [List.take_zero]; done)) | exact CLe_nI (by omega) | exact CLe_int (by omega) | exact CLe_inI (by omega) | exact CLe_nIi (by omega) | with_reducible apply And.intro))
  all_goals (first | (rw [pV_S w v hc10,hV]; exact CLe.refl _) | exact CLe.refl _)
 obtain rfl : v = w.length := by omega
 rw [← alW_eq]
 refine Tr.exit ?_
 refine hK1 _ ?_
 refine Tr.w hcx [1000036] _ [] rfl rfl rfl ?_ X_fc14b
 exact Tr.ret F_fc14b
end Go.Sx
namespace Go.Sx
open Go.RowKit Go.Proofs
set_option maxRecDepth 100000
set_option maxHeartbeats 8000000
theorem rda_set1 {l : List C} {k : Nat} {x : C} (h : k < l.length) (hx : x.noR = x) : rda (l.set k x) k 1 = some (.agg [x]) := by
  unfold rda
  rw [if_pos (by rw [List.length_set]; omega),List.drop_eq_getElem_cons (by rw [List.length_set]; exact h),List.take_succ_cons,List.take_zero,List.getElem_set_self]
  simp [hx]
theorem rda_fV_eq {n m i : Nat} {w : Wrk} (h : i < w.length) : rda (fV n i m w) i 1 = some (.agg [.gv (n + 1) m (2,48)]) := rda_set1 (by rw [cl_len (f := vC),Nat.mul_one]; exact h) rfl
end Go.Sx
namespace Go.Sx
open Go.RowKit
mutual
theorem bk_id {r : Nat → Nat} {k : Nat} (hr : ∀ i,i < k → r i = i) : ∀ c : C,noRef k c = true → bkC r c = c
  | .val _,_ => by simp only [bkC]
  | .top,_ => by simp only [bkC]
  | .agg xs,h => by simp only [noRef] at h; simp only [bkC,bks_id hr xs h]
  | .tup xs,h => by simp only [noRef] at h; simp only [bkC,bks_id hr xs h]
  | .kp xs,h => by simp only [noRef] at h; simp only [bkC,bks_id hr xs h]
  | .sl _ _ xs,h => by simp only [noRef] at h; simp only [bkC,bks_id hr xs h]
  | .fn _ xs,h => by simp only [noRef] at h; simp only [bkC,bks_id hr xs h]
  | .sv _ _ _,h => by simp only [noRef,decide_eq_true_eq] at h; simp only [bkC,hr _ h]
  | .gv _ _ _,h => by simp only [noRef,decide_eq_true_eq] at h; simp only [bkC,hr _ h]
  | .bp _ _,h => by simp only [noRef,decide_eq_true_eq] at h; simp only [bkC,hr _ h]
  | .bt _ _ _,h => by simp only [noRef,decide_eq_true_eq] at h; simp only [bkC,hr _ h]
  | .mp _,h => by simp only [noRef,decide_eq_true_eq] at h; simp only [bkC,hr _ h]
theorem bks_id {r : Nat → Nat} {k : Nat} (hr : ∀ i,i < k → r i = i) : ∀ l : List C,noRefs k l = true → bkCs r l = l
  | [],_ => by simp only [bkCs]
  | x :: xs,h => by simp only [noRefs,Bool.and_eq_true] at h; simp only [bkCs,bk_id hr x h.1,bks_id hr xs h.2]
end
theorem bkH_id {r : Nat → Nat} {k : Nat} (hr : ∀ i,i < k → r i = i) : ∀ h : Hp,nrH k h = true → h.map (Option.map (bkCs r)) = h
  | [],_ => rfl
  | none :: h,q => by simp only [nrH] at q; simp only [List.map_cons,Option.map_none,bkH_id hr h q]
  | some c :: h,q => by simp only [nrH,Bool.and_eq_true] at q; simp only [List.map_cons,Option.map_some,bks_id hr c q.1,bkH_id hr h q.2]
noncomputable def hpS (hp : Nat → List C → Hp → Option (C × Hp)) (f : Nat) (az : List C) (X : Hp) (r : C × Hp) : Nat → List C → Hp → Option (C × Hp) := fun g xs h => open Classical in if g = f ∧ xs = az ∧ h.take X.length = X ∧ OkH (h.drop X.length) then some (r.1,r.2 ++ h.drop X.length) else hp g xs h
theorem hpS_hit (hp : Nat → List C → Hp → Option (C × Hp)) (f : Nat) (az : List C) (X : Hp) (r : C × Hp) (suf : Hp) (hs : OkH suf) : hpS hp f az X r f az (X ++ suf) = some (r.1,r.2 ++ suf) := by
  unfold hpS; rw [if_pos ⟨rfl,rfl,by simp,by simpa using hs⟩]; simp
theorem hpS_miss (hp : Nat → List C → Hp → Option (C × Hp)) {f g : Nat} (az : List C) (X : Hp) (r : C × Hp) (h : g ≠ f) (xs : List C) (h' : Hp) : hpS hp f az X r g xs h' = hp g xs h' := by unfold hpS; rw [if_neg fun e => h e.1]
theorem CxOK.oneS {P : Program} {gl : Nat → C} {km : TypeId → Value → Bool} {pu : Nat → List C → Option C} {hp : Nat → List C → Hp → Option (C × Hp)} {N M : Nat} (hcx : CxOK ⟨P,N,gl,pu,hp,fun _ => false,km,true⟩) {f : Nat} {az : List C} {X : Hp} {r : C × Hp} (hf : FC P gl f az X r.1 r.2)
    (hl : r.2.length = X.length) (al : ∀ o ∈ X,((liveC o).isSome || (mpL o).isSome) = true) (na : noRefs X.length az = true) (nx : nrH X.length X = true) (nc : noRef X.length r.1 = true) (ny : nrH X.length r.2 = true) :
    CxOK ⟨P,M,gl,pu,hpS hp f az X r,fun _ => false,km,true⟩ := by
  refine ⟨hcx.glo,hcx.pu,fun g xs h c k' hc => ?_,hcx.km⟩
  by_cases e : g = f ∧ xs = az ∧ h.take X.length = X ∧ OkH (h.drop X.length)
  · have hc : hpS hp f az X r g xs h = some (c,k') := hc
    obtain ⟨rfl,rfl,e1,e2⟩ := e
    obtain ⟨suf,rfl⟩ : ∃ suf,h = X ++ suf := ⟨h.drop X.length,by conv => lhs; rw [← List.take_append_drop X.length h,e1]⟩
    rw [List.drop_left] at e2
    rw [hpS_hit _ _ _ _ _ _ e2] at hc
    cases hc
    have h0 : ∀ i,i < X.length → (0 + ·) i = i := fun i _ => Nat.zero_add i
    have h1 : ∀ i,i < X.length → midR 0 X.length suf.length i = i := fun i hi => by unfold midR; rw [if_pos hi,Nat.zero_add]
    have q := FC.mid hf [] suf (fun o ho => by cases ho) e2 al na (nrH_mem nx) (by rw [hl]; exact Nat.le_refl _) hcx.glo
    simp only [List.length_nil,List.nil_append] at q
    rw [bks_id h0 _ na,bk_id h1 _ nc,List.take_of_length_le (by omega),List.drop_of_length_le (by omega),List.map_nil,List.append_nil,bkH_id h1 _ ny,show shH 0 X = X from bkH_id h0 _ nx] at q
    exact q
  · have hc : hpS hp f az X r g xs h = some (c,k') := hc
    unfold hpS at hc
    rw [if_neg e] at hc
    exact hcx.hp g xs h c k' hc
end Go.Sx
namespace Go.Sx
open Go.RowKit Go.Proofs
set_option maxRecDepth 100000
set_option maxHeartbeats 8000000
def txt9 : List (List UInt8) := [[],[32,97],[97,32],[97,32,32,98],[97,10],[64],[98,32,64],[126,33],[97,127]]
def ch4 (a c : Nat) (y : Int) : List Int := [(a : Int),-1,(c : Int),y]
theorem ch4_ln (a c : Nat) (y : Int) : (ch4 a c y).length = 4 := rfl
theorem txt9_ln : txt9.length = 9 := rfl
def chgN (p : Psg) (y : Int) : Nat → Psg
  | 0 => ((gt (ch4 6 5 y) (aroundI y 4),p.1.2),p.2)
  | 1 => ((p.1.1,gt (ch4 64 63 y) (aroundI y 4),p.1.2.2),p.2)
  | 2 => ((p.1.1,p.1.2.1,gt (ch4 1024 1023 y) (aroundI y 4)),p.2)
  | 3 => (p.1,((aroundI y 7 : Nat) : Int) - 1,p.2.2)
  | 4 => (p.1,p.2.1,((aroundI y 7 : Nat) : Int) - 1,p.2.2.2)
  | 5 => (p.1,p.2.1,p.2.2.1,gt txt9 (aroundI y 9),p.2.2.2.2)
  | 6 => (p.1,p.2.1,p.2.2.1,p.2.2.2.1,p.2.2.2.2 ++ [(((0 : Nat) : Int),((aroundI y 9 : Nat) : Int),((0 : Nat) : Int))])
  | 7 => (p.1,p.2.1,p.2.2.1,p.2.2.2.1,[(-1,((0 : Nat) : Int),((aroundI y 2 : Nat) : Int))])
  | 8 => ((((0 : Nat) : Int),((aroundI y 8 : Nat) : Int),((0 : Nat) : Int)),p.2)
  | _ => (p.1,p.2.1,p.2.2.1,p.2.2.2.1 ++ [32,64],p.2.2.2.2)
def chgP (p : Psg) (how y : Int) : Psg := chgN p y (aroundI how 10)
theorem chgN_9 {p : Psg} {y : Int} {n : Nat} (h0 : ¬ n = 0) (h1 : ¬ n = 1) (h2 : ¬ n = 2) (h3 : ¬ n = 3) (h4 : ¬ n = 4) (h5 : ¬ n = 5) (h6 : ¬ n = 6) (h7 : ¬ n = 7) (h8 : ¬ n = 8) : chgN p y n = (p.1,p.2.1,p.2.2.1,p.2.2.2.1 ++ [32,64],p.2.2.2.2) := by
  rcases n with _ | _ | _ | _ | _ | _ | _ | _ | _ | n
  all_goals first | rfl | omega
theorem wrc_clpC (L : List Psg) (j : Nat) (x : Psg) (h : j < L.length) : wrc (cl pC L) (j * 7) (pC x) = some (cl pC (L.set j x),.val undef) := by
  have hl := cl_len (f := pC) L
  have e := cl_set (f := pC) L j x h
  unfold wrc
  rw [if_pos (by rw [len_pC]; omega),← e]
theorem wrs_pC6f (x : Psg) (l : List ID) : wrs (pC x) 6 (sl iD .full l) = some ((pC x).set 6 (sl iD .full l),.val undef) := rfl
theorem pC_set6n (x : Psg) (c : C) (l : List ID) : ((pC x).set 6 c).set 6 (sl iD .no l) = pC (x.1,x.2.1,x.2.2.1,x.2.2.2.1,l) := rfl
attribute [go_sem high] wrc_clpC wrs_pC6f
theorem wrcP_0 (p : Psg) (x : Int) : wrc (pC p) 0 [.val (.int .i64 x)] = some (pC ((x,p.1.2),p.2),.val undef) := rfl
theorem wrcP_1 (p : Psg) (x : Int) : wrc (pC p) 1 [.val (.int .i64 x)] = some (pC ((p.1.1,x,p.1.2.2),p.2),.val undef) := rfl
theorem wrcP_2 (p : Psg) (x : Int) : wrc (pC p) 2 [.val (.int .i64 x)] = some (pC ((p.1.1,p.1.2.1,x),p.2),.val undef) := rfl
theorem wrcP_3 (p : Psg) (x : Int) : wrc (pC p) 3 [.val (.int .i64 x)] = some (pC (p.1,x,p.2.2),.val undef) := rfl
theorem wrcP_4 (p : Psg) (x : Int) : wrc (pC p) 4 [.val (.int .i64 x)] = some (pC (p.1,p.2.1,x,p.2.2.2),.val undef) := rfl
theorem wrcP_5 (p : Psg) (x : List UInt8) : wrc (pC p) 5 [.val (str x)] = some (pC (p.1,p.2.1,p.2.2.1,x,p.2.2.2.2),.val undef) := rfl
theorem wrcP_8 (p : Psg) (a b c : Nat) : wrc (pC p) 0 [.val (nI a),.val (nI b),.val (nI c)] = some (pC (((a : Int),(b : Int),(c : Int)),p.2),.val undef) := rfl
theorem lay1s4 (a c : Nat) (y : Int) : lay1s 4 (cl iC ((((List.map Int.ofNat ((List.replicate 4 0).set 0 a)).set 1 (-1)).set 2 (c : Int)).set 3 y)) [] = some (vp (sl iC .full (ch4 a c y))) := rfl
theorem txt9_mk : sl sC .full ((((((((((List.replicate 9 []).set 0 []).set 1 [32,97]).set 2 [97,32]).set 3 [97,32,32,98]).set 4 [97,10]).set 5 [64]).set 6 [98,32,64]).set 7 [126,33]).set 8 [97,127]) = sl sC .full txt9 := rfl
attribute [go_sem high] lay1s4 wrcP_0 wrcP_1 wrcP_2 wrcP_3 wrcP_4 wrcP_5 wrcP_8
end Go.Sx
namespace Go.Sx
open Go.RowKit Go.Proofs
def tit4 : List (List UInt8) := [[],[97,32,64],[32,98],[116,104,101]]
def setL (w : Wrk) (v a : Nat) (l : List Psg) : Wrk := w.set v ((gt w v).set a ((gt (gt w v) a).1,l))
def spN (w : Wrk) (v a : Nat) (y : Int) : Nat → Wrk
  | 0 => w ++ List.replicate (aroundI y 9) []
  | 1 => w.set v ((gt w v).set a (gt tit4 (aroundI (y.tdiv ((4 : Nat) : Int)) 4),(gt (gt w v) a).2))
  | 2 => w.set v (gt w v ++ [gt (gt w v) a])
  | 3 => if 0 < (gt (gt w v) a).2.length then setL w v a ((gt (gt w v) a).2.drop 1) else w
  | 4 => if 1 < (gt (gt w v) a).2.length then setL w v a (((gt (gt w v) a).2.set 0 (gt (gt (gt w v) a).2 ((gt (gt w v) a).2.length - 1))).set ((gt (gt w v) a).2.length - 1) (gt (gt (gt w v) a).2 0)) else w
  | 5 => w.set v (gt w v ++ List.replicate (62 + aroundI (y.tdiv ((4 : Nat) : Int)) 3) ([120],[]))
  | 6 => w.set v []
  | _ => setL w v a ((gt (gt w v) a).2 ++ [oneP [y,y.tdiv ((8 : Nat) : Int)] 0 (((0 : Nat) : Int),((aroundI y 12 : Nat) : Int),((0 : Nat) : Int))])
def spW (w : Wrk) (how y : Int) : Wrk :=
  if 0 < (alW w).length ∧ aroundI how 2 = 0 then
    (fun s : Nat × Nat × Nat => setL w s.1 s.2.1 ((gt (gt w s.1) s.2.1).2.set s.2.2 (chgP (gt (gt (gt w s.1) s.2.1).2 s.2.2) (how.tdiv ((2 : Nat) : Int)) (y.tdiv ((8 : Nat) : Int))))) (fnd w (gt (alW w) (aroundI y (alW w).length)).1).1
  else if w.length = 0 then List.replicate (aroundI y 10) []
  else if (gt w (aroundI y w.length)).length ≤ aroundI (y.tdiv ((2 : Nat) : Int)) (max (gt w (aroundI y w.length)).length 1) then w.set (aroundI y w.length) (List.replicate (aroundI y 66) ([],[]))
  else spN w (aroundI y w.length) (aroundI (y.tdiv ((2 : Nat) : Int)) (max (gt w (aroundI y w.length)).length 1)) y (aroundI (how.tdiv ((2 : Nat) : Int)) 8)
theorem mv_fV2 {ρ : List Nat} {n k v0 m : Nat} {w : Wrk} (h : ∀ m,mvC ρ (.gv (n + 1) m (2,48)) = .gv (k + 1) m (2,48)) : mvCs ρ (fV n v0 m w) = fV k v0 m w := by unfold fV; rw [mvs_set,mvCs_cl,h]
theorem mv_fA2 {ρ : List Nat} {n k v0 m : Nat} {w : Vol} (h : ∀ m,mvC ρ (.gv (n + 2) m (7,37)) = .gv (k + 2) m (7,37)) : mvCs ρ (fA n v0 m w) = fA k v0 m w := by unfold fA; rw [mvs_set,mvCs_cl,h]
theorem fzs_set (ok : Nat → Bool) (b : Nat) (ys : List C) (x : C) : ∀ (l : List C) (i : Nat),fzCs ok b ys (l.set i x) = (fzCs ok b ys l).set i (fzC ok b ys x)
  | [],_ => by simp only [List.set_nil,fzCs]
  | y :: l,0 => by simp only [List.set_cons_zero,fzCs]
  | y :: l,i + 1 => by simp only [List.set_cons_succ,fzCs,fzs_set ok b ys x l i]
theorem cl_setA (V : Vol) (a : Nat) (l : List Psg) : (cl aC V).set (a * 2 + 1) (sl pC .no l) = cl aC (V.set a ((gt V a).1,l)) := by
  induction V generalizing a with
  | nil => rfl
  | cons x V ih =>
    cases a with
    | zero => rfl
    | succ a =>
      rw [cl_cons,List.set_cons_succ,cl_cons]
      show (C.val (str x.1) :: sl pC .no x.2 :: cl aC V).set ((a + 1) * 2 + 1) _ = _
      rw [show (a + 1) * 2 + 1 = (a * 2 + 1) + 1 + 1 by omega,List.set_cons_succ,List.set_cons_succ,ih]
      rfl
theorem cl_setV (w : Wrk) (v : Nat) (V : Vol) : (cl vC w).set v (sl aC .no V) = cl vC (w.set v V) := by
  induction w generalizing v with
  | nil => rfl
  | cons x w ih =>
    cases v with
    | zero => rfl
    | succ v =>
      rw [cl_cons,List.set_cons_succ,cl_cons]
      show (sl aC .no x :: cl vC w).set (v + 1) _ = _
      rw [List.set_cons_succ,ih]; rfl
theorem fzGv_p (l : List Psg) (n : Nat) (h : n = l.length) : fzGv (cl pC l) n (7,37) = sl pC .no l := fzGv_cl pC 37 l n h
theorem fzGv_a (l : List Art) (n : Nat) (h : n = l.length) : fzGv (cl aC l) n (2,48) = sl aC .no l := fzGv_cl aC 48 l n h
theorem fzGv_v (l : List Vol) (n : Nat) (h : n = l.length) : fzGv (cl vC l) n (1,46) = sl vC .no l := fzGv_cl vC 46 l n h
theorem fz_fA {ok : Nat → Bool} {a m : Nat} {V : Vol} {l : List Psg} (h : m = l.length) : fzCs ok 2 (cl pC l) (fA 0 a m V) = cl aC (V.set a ((gt V a).1,l)) := by
  unfold fA
  rw [fzs_set,fzCs_cl,fzC_gv,if_pos rfl,fzGv_p l m h,cl_setA]
theorem fz_fV {ok : Nat → Bool} {v m : Nat} {w : Wrk} {V : Vol} (h : m = V.length) : fzCs ok 1 (cl aC V) (fV 0 v m w) = cl vC (w.set v V) := by
  unfold fV
  rw [fzs_set,fzCs_cl,fzC_gv,if_pos rfl,fzGv_a V m h,cl_setV]
theorem setL_self {w : Wrk} {v a : Nat} : setL w v a (gt (gt w v) a).2 = w := by
  have h : ∀ {α : Type} [Inhabited α] (l : List α) (i : Nat),l.set i (gt l i) = l := fun l i => by
    apply List.ext_getElem?
    intro j
    rw [List.getElem?_set]
    split
    · rename_i e; subst e
      split
      · rename_i hj; simp [gt,List.getD,List.getElem?_eq_getElem hj]
      · rename_i hj; rw [List.getElem?_eq_none (by omega)]
    · rfl
  unfold setL
  rw [show ((gt (gt w v) a).1,(gt (gt w v) a).2) = gt (gt w v) a from rfl,h,h]
end Go.Sx
namespace Go.Sx
open Go.RowKit
section
variable {cx : Cx} {n : Nat} {Q : Ex → St → Prop}
theorem Tr.bxa {c : Code} {e : List (Nat × C)} {h : Hp} (b : Nat) (cells cells' : List C) (hb : h.at b = some cells) (hl : cells.length = cells'.length) (hc : ∀ (k : Nat) (x x' : C),cells[k]? = some x → cells'[k]? = some x' → CLe x x' ∧ notTup x' = true) (H : Tr cx n c ⟨A e,h.set b (some cells')⟩ Q) : Tr cx n c ⟨A e,h⟩ Q := by
  have hlt := Hp.at_lt hb
  have hset : ∀ k (hk1 : k < cells.length) (hk2 : k < cells'.length),(cells'.take k ++ cells.drop k).set k cells'[k] = cells'.take (k + 1) ++ cells.drop (k + 1) := by
    intro k hk1 hk2
    rw [List.set_append_right _ _ (by rw [List.length_take]; omega),List.length_take,Nat.min_eq_left (by omega),Nat.sub_self,List.drop_eq_getElem_cons hk1,List.set_cons_zero,List.take_add_one,List.getElem?_eq_getElem hk2]
    simp only [Option.toList_some,List.append_assoc,List.singleton_append]
  have live : ∀ k,k ≤ cells.length → liveC (some (cells'.take k ++ cells.drop k)) = some (cells'.take k ++ cells.drop k) := by
    intro k
    induction k with
    | zero => intro _; simpa using Hp.at_live hb
    | succ k ih =>
      intro hk
      have hk1 : k < cells.length := by omega
      have hk2 : k < cells'.length := by omega
      rw [← hset k hk1 hk2]
      exact liveC_setC (ih (by omega)) k (hc k _ _ (List.getElem?_eq_getElem hk1) (List.getElem?_eq_getElem hk2)).2
  have key : ∀ k,k ≤ cells.length → Tr cx n c ⟨A e,h.set b (some (cells'.take k ++ cells.drop k))⟩ Q → Tr cx n c ⟨A e,h⟩ Q := by
    intro k
    induction k with
    | zero =>
      intro _ H
      rw [List.take_zero,List.nil_append,List.drop_zero,Hp.set_same hb] at H
      exact H
    | succ k ih =>
      intro hk H
      refine ih (by omega) ?_
      have hk1 : k < cells.length := by omega
      have hk2 : k < cells'.length := by omega
      have hg : (cells'.take k ++ cells.drop k)[k]? = some cells[k] := by
        rw [List.getElem?_append_right (by rw [List.length_take]; omega),List.length_take,Nat.min_eq_left (by omega),Nat.sub_self,List.getElem?_drop,Nat.add_zero,List.getElem?_eq_getElem hk1]
      obtain ⟨h1,h2⟩ := hc k _ _ (List.getElem?_eq_getElem hk1) (List.getElem?_eq_getElem hk2)
      have hat : Hp.at (h.set b (some (cells'.take k ++ cells.drop k))) b = some (cells'.take k ++ cells.drop k) := by
        rw [Hp.at_set hlt,if_pos rfl,live k (by omega)]
      refine Tr.bxc b k cells'[k] _ hat hg h1 h2 ?_
      rw [hset k hk1 hk2,List.set_set]
      exact H
  refine key cells.length (Nat.le_refl _) ?_
  rw [List.take_of_length_le (by omega),List.drop_length,List.append_nil]
  exact H
end
end Go.Sx
