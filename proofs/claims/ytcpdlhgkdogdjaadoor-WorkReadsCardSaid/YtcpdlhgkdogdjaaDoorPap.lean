/-
   And what follows.
-/
import Derived.DeepKeys4
import Derived.MapViews
import Derived.Test.YtcpdlhgkdogdjaaDoorPao
import Derived.Test.YtcpdlhgkdogdjaaDoorPal
import Derived.Test.YtcpdlhgkdogdjaaDoorPam
set_option linter.unusedSimpArgs false
set_option linter.unusedVariables false
namespace Go.Sx
open Go.RowKit Go.Proofs
set_option maxRecDepth 100000
set_option maxHeartbeats 8000000
theorem Tr.slv {cx : Cx} {n : Nat} {c : Code} {Q : Ex → St → Prop} {e : List (Nat × C)} {h : Hp} (p : Nat) {r : Rt} (hp : A e p = .sl r 0 []) (H : ∀ a cap,cap ≤ maxLen → Tr cx n c ⟨A ((p,.val (.slice a 0 cap)) :: e),h⟩ Q) : Tr cx n c ⟨A e,h⟩ Q := by
  intro r' hr G w a S R hR
  have hv := S.pre.env.1 p
  simp only [] at hv
  rw [hp] at hv
  simp only [Rep] at hv
  obtain ⟨a',cap,hv,_,h2,_⟩ := hv
  refine H a' cap h2 r' hr G w a ⟨S.defers,S.size,⟨S.pre.ok,⟨fun t => ?_,fun t s m xs q => ?_⟩,S.pre.glob⟩⟩ R hR
  · simp only [A]
    split
    · rename_i e1; subst e1; exact rep_val.2 hv
    · exact S.pre.env.1 t
  · simp only [A] at q
    split at q
    · cases q
    · exact S.pre.env.2 t s m xs q
theorem slv_le {α : Type} (f : α → List C) {a : Option Addr} {cap : Nat} (h : cap ≤ maxLen) : CLe (.val (.slice a 0 cap)) (sl f .no []) :=
  ⟨fun G v q => by
    rw [rep_val] at q; subst q
    show ∃ a' c',_
    exact ⟨a,cap,rfl,Nat.zero_le _,h,(fun x => by cases x),.inl rfl⟩,fun s m xs q => by cases q⟩
theorem eq_vv35 (op : BinOp) (a : Option Addr) (n cap : Nat) : binPlan Tryd.prog op 35 (.val (.slice a n cap)) (.val (.slice none 0 0)) = eqR op (decide (a.isNone = true)) := by
  rw [Bool.decide_eq_true]
  have hg : Tryd.prog.eqGuardType Tryd.prog.depth 35 = false := by kernel_rfl
  have he : eqC Tryd.prog 9 35 (.val (.slice a n cap)) (.val (.slice none 0 0)) = some a.isNone := by
    unfold eqC; rw [td35]; cases a <;> rfl
  show eqPlan Tryd.prog op 35 _ _ = _
  unfold eqPlan
  rw [if_pos ⟨.inr (.inl ⟨rfl,rfl⟩),hg⟩]
  unfold eqR
  cases op <;> simp [he,vp,Plan.pure]
theorem bsA_iD0 (u : TypeDesc) (y : Nat) : bsA (some ⟨u,3,y,[nI 0,nI 0,nI 0]⟩) 0 [] = some (vp (sl iD .full [])) := rfl
theorem eq_sn35 (op : BinOp) (x : ID) (l : List ID) : binPlan Tryd.prog op 35 (sl iD .no (x :: l)) (.val (.slice none 0 0)) = eqR op false :=
  eq_sn op (x := sl iD .no (x :: l)) rfl (fun v e => by cases e) td35 (by kernel_rfl)
theorem X_fc53 {p : Prop} (e : p := by intro KZ hZ; simp -implicitDefEqProofs (disch := first | omega | (simp only [go_sem,lA,lD,lT] <;> omega) | decide) only [go_sem,↓reduceIte,Nat.reduceEqDiff,reduceCtorEq,Nat.reduceLT,Nat.reduceBEq,Nat.reduceAdd,hy]; with_reducible exact hZ) : p := e
theorem F_fc53 {p : Prop} (e : p := by simp -implicitDefEqProofs (disch := first | omega | (simp only [go_sem,lA,lD,lT] <;> omega) | decide) only [go_sem,↓reduceIte,Nat.reduceEqDiff,reduceCtorEq]) : p := e
theorem fc53 {gl : Nat → C} {M : Nat} {pu : Nat → List C → Option C} (hcx : CxOK (cxP gl M pu)) (w : Wrk) : FC Tryd.prog gl 53 [.agg [sl vC .no w]] [] (.fn 93 [.kp [sl vC .no w]]) [] := by
 replace hcx := hcx.reN (M := 4)
 refine FC.ofA (cx := cxP gl 4 pu) (rs := [.tmp 2]) rfl Tryd.func53 rfl rfl rfl (by simp only [List.length_cons,List.length_nil]; decide) (by simp only [go_sem]) ?_
 simp only [ini,go_sem]
 have hy := True.intro
 refine Tr.w hcx [] _ [none] rfl rfl rfl ?_ X_fc53
 refine Tr.w hcx [1000003] _ [] rfl rfl rfl ?_ X_fc53
 refine Tr.f1 hcx 0 [sl vC .no w] ?_
 exact Tr.ret F_fc53
theorem X_fc102n {p : Prop} (e : p := by intro KZ hZ; simp -implicitDefEqProofs (disch := first | omega | (simp only [go_sem,lA,lD,lT] <;> omega) | decide) only [go_sem,↓reduceIte,Nat.reduceEqDiff,reduceCtorEq,Nat.reduceLT,Nat.reduceBEq,Nat.reduceAdd,eq_vv35,bsA_iD0,hy]; with_reducible exact hZ) : p := e
theorem F_fc102n {p : Prop} (e : p := by simp -implicitDefEqProofs (disch := first | omega | (simp only [go_sem,lA,lD,lT] <;> omega) | decide) only [go_sem,↓reduceIte,Nat.reduceEqDiff,reduceCtorEq]; all_goals (rfl)) : p := e
theorem fc102n {gl : Nat → C} {M : Nat} {pu : Nat → List C → Option C} (hcx : CxOK (cxP gl M pu)) : FC Tryd.prog gl 102 [sl iD .no []] [] (sl iD .no []) [] := by
 replace hcx := hcx.reN (M := 8)
 refine FC.ofA (cx := cxP gl 8 pu) (rs := [.tmp 2]) rfl Tryd.func102 rfl rfl rfl (by simp only [List.length_cons,List.length_nil]; decide) (by simp only [go_sem]) ?_
 simp only [ini,go_sem]
 have hy := True.intro
 refine Tr.w hcx [] _ [] rfl rfl rfl ?_ X_fc102n
 refine Tr.seqK fun K1 hK1 => ?_
 refine Tr.slv 0 rfl ?_
 intro a cap hcap
 refine Tr.w hcx [] _ [] rfl rfl rfl ?_ X_fc102n
 refine Tr.cD rfl (fun hc4 => ?_) (fun hc4 => ?_)
 ·
  refine Tr.w hcx [] _ [] rfl rfl rfl ?_ X_fc102n
  refine Tr.live [(2,sl iD .no ([]))] (by simp only [Le_cons,Le_nil,↓A_cons,↓reduceIte,Nat.reduceEqDiff,and_true]; first | exact CLe.nil _ | exact CLe.noR (sl iD (.own 3) ([]))) ?_
  exact Tr.ret F_fc102n
 refine Tr.skip ?_
 refine hK1 _ ?_
 refine Tr.live [(0,sl iD .no [])] (by simp only [Le_cons,Le_nil,↓A_cons,↓reduceIte,Nat.reduceEqDiff,and_true]; exact slv_le iD hcap) ?_
 refine Tr.w hcx [5,1000007] _ [] rfl rfl rfl ?_ X_fc102n
 refine Tr.live [(2,sl iD .no ([]))] (by simp only [Le_cons,Le_nil,↓A_cons,↓reduceIte,Nat.reduceEqDiff,and_true]; first | exact CLe.nil _ | exact CLe.noR (sl iD (.own 3) ([]))) ?_
 exact Tr.ret F_fc102n
theorem X_fc102s {p : Prop} (e : p := by intro KZ hZ; simp -implicitDefEqProofs (disch := first | omega | (simp only [go_sem,lA,lD,lT] <;> omega) | decide) only [go_sem,↓reduceIte,Nat.reduceEqDiff,reduceCtorEq,Nat.reduceLT,Nat.reduceBEq,Nat.reduceAdd,eq_sn35,bsA_iD0,hy]; with_reducible exact hZ) : p := e
theorem F_fc102s {p : Prop} (e : p := by simp -implicitDefEqProofs (disch := first | omega | (simp only [go_sem,lA,lD,lT] <;> omega) | decide) only [go_sem,↓reduceIte,Nat.reduceEqDiff,reduceCtorEq]; all_goals (rfl)) : p := e
theorem fc102s {gl : Nat → C} {M : Nat} {pu : Nat → List C → Option C} (hcx : CxOK (cxP gl M pu)) (x : ID) (l : List ID) (hl : l.length < 1000000) : FC Tryd.prog gl 102 [sl iD .no (x :: l)] [] (sl iD .no (x :: l)) [] := by
 replace hcx := hcx.reN (M := 8)
 refine FC.ofA (cx := cxP gl 8 pu) (rs := [.tmp 2]) rfl Tryd.func102 rfl rfl rfl (by simp only [List.length_cons,List.length_nil]; decide) (by simp only [go_sem]) ?_
 simp only [ini,go_sem]
 have hy := True.intro
 refine Tr.w hcx [] _ [] rfl rfl rfl ?_ X_fc102s
 refine Tr.seqK fun K1 hK1 => ?_
 refine Tr.w hcx [] _ [] rfl rfl rfl ?_ X_fc102s
 refine Tr.cF rfl ?_
 refine Tr.skip ?_
 refine hK1 _ ?_
 refine Tr.w hcx [5,1000007] _ [] rfl rfl rfl ?_ X_fc102s
 refine Tr.live [(2,sl iD .no (x :: l))] (by simp only [Le_cons,Le_nil,↓A_cons,↓reduceIte,Nat.reduceEqDiff,and_true]; first | exact CLe.nil _ | exact CLe.noR (sl iD (.own 3) (x :: l))) ?_
 exact Tr.ret F_fc102s
end Go.Sx
namespace Go.Sx
open Go.RowKit Go.Proofs
set_option maxRecDepth 100000
set_option maxHeartbeats 8000000
theorem wrs_pC6 (x : Psg) : wrs (pC x) 6 (sl iD .no x.2.2.2.2) = some (pC x,.val undef) := rfl
theorem bsA_pC (u : TypeDesc) (y : Nat) (x : Psg) : bsA (some ⟨u,7,y,[nI 0,nI 0,nI 0,nI 0,nI 0,str [],.slice none 0 0]⟩) 1 [(0,.agg (pC x))] = some (vp (sl pC .full [x])) := rfl
theorem bsA_iD (u : TypeDesc) (y : Nat) (x : ID) : bsA (some ⟨u,3,y,[nI 0,nI 0,nI 0]⟩) 1 [(0,.agg (iD x))] = some (vp (sl iD .full [x])) := rfl
theorem RoundQ.c {k : Nat} {I1 : Hp → Prop} {Q : Ex → Hp → Prop} {s : St} (h : I1 (s.h.take k)) (hb : ∀ (b : Nat) cells,b < k → s.h[b]? = some (some cells) → noRefs k cells = true := by
    first
    | (rintro (_ | b) cells hb hq
       · (cases hq; first | (simp only [noRefs_cons,noRefs_nil,noRef_sl,noRef_val,noRefs_f,noRefs_cl,Bool.and_self]; done) | (simp only [go_sem]; done))
       · omega)
    | (rintro (_ | _ | b) cells hb hq
       · (cases hq; first | (simp only [noRefs_cons,noRefs_nil,noRef_sl,noRef_val,noRefs_f,noRefs_cl,Bool.and_self]; done) | (simp only [go_sem]; done))
       · (cases hq; first | (simp only [noRefs_cons,noRefs_nil,noRef_sl,noRef_val,noRefs_f,noRefs_cl,Bool.and_self]; done) | (simp only [go_sem]; done))
       · omega)) : RoundQ k I1 Q .normal s := .inl ⟨h,hb⟩
attribute [go_sem high] wrs_pC6
attribute [go_sem] bsA_pC bsA_iD bsA_iD0 xsW
theorem fc102 {gl : Nat → C} {M : Nat} {pu : Nat → List C → Option C} (hcx : CxOK (cxP gl M pu)) (l : List ID) (hl : l.length ≤ 1000000) : FC Tryd.prog gl 102 [sl iD .no l] [] (sl iD .no l) [] := by
  cases l with
  | nil => exact fc102n hcx
  | cons x l => exact fc102s hcx x l (by simp only [List.length_cons] at hl; omega)
def alW (w : Wrk) : List Psg := (rdW w).map (·.2)
theorem alW_len (w : Wrk) : (alW w).length = (rdW w).length := by simp [alW]
theorem alW_gt (w : Wrk) (i : Nat) (h : i < (rdW w).length) : gt (alW w) i = (gt (rdW w) i).2 := by simp [alW,gt,List.getD,List.getElem?_eq_getElem h]
theorem take_sn {α : Type} [Inhabited α] (l : List α) (i : Nat) (h : i < l.length) : l.take i ++ [gt l i] = l.take (i + 1) := by
  rw [List.take_add_one,List.getElem?_eq_getElem h]; simp [gt,List.getD,List.getElem?_eq_getElem h]
def WS (w : Wrk) : Prop := WB w ∧ (rdW w).length ≤ 100000 ∧ ∀ i,i < (rdW w).length → (gt (rdW w) i).2.2.2.2.2.length ≤ 1000000
theorem X_fc68 {p : Prop} (e : p := by intro KZ hZ; simp -implicitDefEqProofs (disch := first | omega | (simp only [go_sem,lA,lD,lT] <;> omega) | decide) only [go_sem,↓reduceIte,Nat.reduceEqDiff,reduceCtorEq,Nat.reduceLT,Nat.reduceBEq,Nat.reduceAdd,e102,hy]; with_reducible exact hZ) : p := e
theorem F_fc68 {p : Prop} (e : p := by simp -implicitDefEqProofs (disch := first | omega | (simp only [go_sem,lA,lD,lT] <;> omega) | decide) only [go_sem,↓reduceIte,Nat.reduceEqDiff,reduceCtorEq]; all_goals (rfl)) : p := e
theorem fc68 {gl : Nat → C} {M : Nat} {pu : Nat → List C → Option C} (hcx : CxOK (cxP gl M pu)) (h102 : ∀ l : List ID,l.length ≤ 1000000 → pu 102 [sl iD .no l] = some (sl iD .no l)) (p : Psg) (hp : p.2.2.2.2.length ≤ 1000000) : FC Tryd.prog gl 68 [.agg (pC p)] [] (.agg (pC p)) [] := by
 replace hcx := hcx.reN (M := 8)
 refine FC.ofA (cx := cxP gl 8 pu) (rs := [.cell 2 37]) rfl Tryd.func68 rfl rfl rfl (by simp only [List.length_cons,List.length_nil]; decide) (by simp only [go_sem]) ?_
 simp only [ini,go_sem]
 have hy := True.intro
 have e102 := h102 _ hp
 refine Tr.w hcx [] _ [none,none] rfl rfl rfl ?_ X_fc68
 refine Tr.w hcx [] _ [] rfl rfl rfl ?_ X_fc68
 refine Tr.w hcx [] _ [] rfl rfl rfl ?_ X_fc68
 exact Tr.ret F_fc68
theorem X_fc24 {p : Prop} (e : p := by intro KZ hZ; simp -implicitDefEqProofs (disch := first | omega | (simp only [go_sem,lA,lD,lT,hT] <;> omega) | decide) only [go_sem,↓reduceIte,Nat.reduceEqDiff,reduceCtorEq,Nat.reduceLT,Nat.reduceBEq,Nat.reduceAdd,h53,hy]; with_reducible exact hZ) : p := e
theorem Y_fc24 {p : Prop} (e : p := by intro KZ hZ; simp -implicitDefEqProofs (disch := first | omega | (simp only [go_sem,lA,lD,lT,hT] <;> omega) | decide) only [go_sem,↓reduceIte,Nat.reduceEqDiff,reduceCtorEq,Nat.reduceLT,Nat.reduceBEq,Nat.reduceAdd,h53,hy]; with_reducible refine And.intro ?_ hZ; first | exact rfl | decide) : p := e
theorem F_fc24 {p : Prop} (e : p := by simp -implicitDefEqProofs (disch := first | omega | (simp only [go_sem,lA,lD,lT,hT] <;> omega) | decide) only [go_sem,↓reduceIte,Nat.reduceEqDiff,reduceCtorEq]; all_goals (rfl)) : p := e
theorem fc24 {gl : Nat → C} {M : Nat} {pu : Nat → List C → Option C} (hcx : CxOK (cxP gl M pu)) (h53 : ∀ w : Wrk,pu 53 [.agg [sl vC .no w]] = some (.fn 93 [.kp [sl vC .no w]])) (h68 : ∀ p : Psg,p.2.2.2.2.length ≤ 1000000 → pu 68 [.agg (pC p)] = some (.agg (pC p))) (w : Wrk) (hw : WS w) : FC Tryd.prog gl 24 [.agg [sl vC .no w]] [] (sl pC .no (alW w)) [] := by
 replace hcx := hcx.reN (M := 16)
 refine FC.ofA (cx := cxP gl 16 pu) (rs := [.tmp 2]) rfl Tryd.func24 rfl rfl rfl (by simp only [List.length_cons,List.length_nil]; decide) (by simp only [go_sem]) ?_
 simp only [ini,go_sem]
 have hy := True.intro
 have hT := True.intro
 have hal := alW_len w
 have hw2 := hw.2.1
 refine Tr.w hcx [] _ [none] rfl rfl rfl ?_ X_fc24
 refine Tr.w hcx [] _ [none] rfl rfl rfl ?_ X_fc24
 refine Tr.seqK fun K1 hK1 => ?_
 refine Tr.w hcx [] _ [] rfl rfl rfl ?_ X_fc24
 refine Tr.blk ?_
 refine Tr.k [3,7] ?_
 refine Tr.m1 hcx [1] ?_
 refine Tr.bxc 0 0 (sl pC (.own 7) []) _ rfl rfl (CLe_sln rfl) rfl ?_
 simp only [List.set_cons_zero]
 refine Tr.rfR ((rdW w).length) (xsW w) (fun i => [some [sl pC (.own 7) ((alW w).take i)]]) rfl (⟨it93 hcx w hw.1,fun i => RowN.nil.c (by simp only [noRefs_cons,noRefs_nil,noRef_sl,Bool.and_self]) rfl⟩) (fun i hi => rfl) (by decide) (rfl) ?rb_1 ?rd_1
 case rb_1 =>
  intro i hi
  replace hcx := hcx.rnd
  have hMO := @hMOT
  simp only [go_sem]
  have hT : ((alW w).take i).length ≤ i := by rw [List.length_take]; omega
  have e68 := h68 _ (hw.2.2 i hi)
  have ep := alW_gt w i hi
  rw [← ep] at e68
  rw [← ep]
  refine Tr.v hcx [] _ [none] rfl rfl rfl ?_ X_fc24
  refine ⟨rfl,?_⟩
  refine Tr.k [3,5] ?_
  refine Tr.blk ?_
  have hy := @e68
  refine Tr.vD hcx hMO [10] _ [] rfl rfl rfl rfl ?_ Y_fc24
  exact RoundQ.c (by rw [← take_sn _ i (by omega)]; rfl)
 case rd_1 =>
  refine hK1 _ ?_
  rw [List.take_of_length_le (show (alW w).length ≤ (rdW w).length by omega)]
  refine Tr.w hcx [1000015] _ [] rfl rfl rfl ?_ X_fc24
  exact Tr.ret F_fc24
end Go.Sx
namespace Go.Sx
open Go.RowKit Go.Proofs
set_option maxRecDepth 100000
set_option maxHeartbeats 8000000
theorem Tr.rfF {gl : Nat → C} {M : Nat} {pu : Nat → List C → Option C} {n : Nat} {Q : Ex → St → Prop} {g f m : Nat} {ps : List Nat} {assign body : Code} {e : List (Nat × C)} {h : Hp} {caps : List C} (N : Nat) (xs : Nat → List C) (H : Nat → Hp) (F : Nat → Prop) (hg : A e g = .fn f caps) (hI : ItrB Tryd.prog gl f caps N xs RowN ∧ ∀ i,RowN m (H i))
    (hx : ∀ i,i < N → (xs i).length = ps.length) (hp : ∀ p ∈ ps,p < M) (h0 : h = H 0) (hF : F 0)
    (hb : ∀ i,i < N → F i → Tr (cxPT gl M pu) (H i).length assign ⟨A (bindL ps (xs i) (nrE e)),H i⟩ fun x s => x = .normal ∧ Tr (cxPT gl M pu) (H i).length body s (RoundQ (H i).length (fun k => k = H (i + 1) ∧ F (i + 1)) fun x h' => Q x ⟨A e,h'⟩))
    (hd : F N → Q .normal ⟨A e,H N⟩) : Tr (cxP gl M pu) n (.rangeFunc (.tmp g) ps.toArray assign body) ⟨A e,h⟩ Q :=
  Tr.rfI (cx := cxP gl M pu) rfl (fun i k => k = H i ∧ F i) hg (hI.1 m _ fun i k hk => by rw [hk.1]; exact hI.2 i) hx hp ⟨h0,hF⟩ (fun i k hi hk => by obtain ⟨rfl,hk⟩ := hk; rw [nrE_eq,bindL_eq]; exact hb i hi hk) (fun k hk => by obtain ⟨rfl,hk⟩ := hk; exact hd hk)
theorem eq_iD (op : BinOp) (a b : ID) : binPlan Tryd.prog op 34 (.agg (iD a)) (.agg (iD b)) = eqR op (decide (a = b)) := by
  have hg : Tryd.prog.eqGuardType Tryd.prog.depth 34 = false := by kernel_rfl
  have hs : Tryd.prog.stoodInHeld 34 = false := by kernel_rfl
  have hi : ∀ x y : Int,eqC Tryd.prog 8 3 (.val (.int .i64 x)) (.val (.int .i64 y)) = some (decide (x = y)) := fun x y => eqC_int Tryd.prog 7 td3 x y
  have he : eqC Tryd.prog 9 34 (.agg (iD a)) (.agg (iD b)) = some (decide (a = b)) := by
    obtain ⟨a1,a2,a3⟩ := a
    obtain ⟨b1,b2,b3⟩ := b
    unfold eqC
    rw [td34]
    simp only [hs,C.agg?,iD,eqFs,td3]
    have g : ∀ (xs : List C) (o : Nat),getAt ⟨.int .i64,1,8,[.int .i64 0]⟩ xs o = rdc xs o := fun _ _ => rfl
    have r0 : ∀ a b c : Value,rdc [.val a,.val b,.val c] 0 = some (.val a) := fun _ _ _ => rfl
    have r1 : ∀ a b c : Value,rdc [.val a,.val b,.val c] 1 = some (.val b) := fun _ _ _ => rfl
    have r2 : ∀ a b c : Value,rdc [.val a,.val b,.val c] 2 = some (.val c) := fun _ _ _ => rfl
    rw [if_neg (by decide)]
    simp only [g,r0,r1,r2,hi,ne_eq,String.reduceEq,not_false_eq_true,if_true]
    by_cases e1 : a1 = b1 <;> by_cases e2 : a2 = b2 <;> by_cases e3 : a3 = b3 <;> simp [e1,e2,e3]
  show eqPlan Tryd.prog op 34 _ _ = _
  unfold eqPlan
  rw [if_pos ⟨.inl ⟨rfl,rfl⟩,hg⟩]
  unfold eqR
  cases op <;> simp [he,vp,Plan.pure]
def fnd (w : Wrk) (id : ID) : (Nat × Nat × Nat) × Bool := match (rdW w).find? (fun r => decide (r.2.1 = id)) with
  | some r => (r.1,true)
  | none => ((0,0,0),false)
theorem fnd_T {w : Wrk} {id : ID} {i : Nat} (hi : i < (rdW w).length) (hn : ∀ j,j < i → ¬ (gt (rdW w) j).2.1 = id) (h : (gt (rdW w) i).2.1 = id) : fnd w id = ((gt (rdW w) i).1,true) := by
  have e : ∀ j (hj : j < (rdW w).length),gt (rdW w) j = (rdW w)[j] := fun j hj => by simp [gt,List.getD,List.getElem?_eq_getElem hj]
  have : (rdW w).find? (fun r => decide (r.2.1 = id)) = some (gt (rdW w) i) := by
    rw [List.find?_eq_some_iff_getElem]
    refine ⟨by simpa using h,i,hi,(e i hi).symm,fun j hj => ?_⟩
    have := hn j hj
    rw [e j (by omega)] at this
    simpa using this
  unfold fnd; rw [this]
theorem fnd_F {w : Wrk} {id : ID} (hn : ∀ j,j < (rdW w).length → ¬ (gt (rdW w) j).2.1 = id) : fnd w id = ((0,0,0),false) := by
  have : (rdW w).find? (fun r => decide (r.2.1 = id)) = none := by
    rw [List.find?_eq_none]
    intro r hr
    obtain ⟨j,hj,rfl⟩ := List.getElem_of_mem hr
    have := hn j hj
    rw [show gt (rdW w) j = (rdW w)[j] by simp [gt,List.getD,List.getElem?_eq_getElem hj]] at this
    simpa using this
  unfold fnd; rw [this]
theorem X_fc32 {p : Prop} (e : p := by intro KZ hZ; simp -implicitDefEqProofs (disch := first | omega | (simp only [go_sem,lA,lD,lT] <;> omega) | decide) only [go_sem,↓reduceIte,Nat.reduceEqDiff,reduceCtorEq,Nat.reduceLT,Nat.reduceBEq,Nat.reduceAdd,h53,eq_iD,c1,hy]; with_reducible exact hZ) : p := e
theorem F_fc32 {p : Prop} (e : p := by simp -implicitDefEqProofs (disch := first | omega | (simp only [go_sem,lA,lD,lT] <;> omega) | decide) only [go_sem,↓reduceIte,Nat.reduceEqDiff,reduceCtorEq]; all_goals (first | (rw [hR]; done) | (rw [hR]; rfl))) : p := e
theorem fc32 {gl : Nat → C} {M : Nat} {pu : Nat → List C → Option C} (hcx : CxOK (cxP gl M pu)) (h53 : ∀ w : Wrk,pu 53 [.agg [sl vC .no w]] = some (.fn 93 [.kp [sl vC .no w]])) (w : Wrk) (id : ID) (hw : WB w) : FC Tryd.prog gl 32 [.agg [sl vC .no w],.agg (iD id)] [] (.tup [.agg [.val (nI (fnd w id).1.1),.val (nI (fnd w id).1.2.1),.val (nI (fnd w id).1.2.2)],.val (.bool (fnd w id).2)]) [] := by
 replace hcx := hcx.reN (M := 18)
 refine FC.ofA (cx := cxP gl 18 pu) (rs := [.cell 4 60,.cell 5 4]) rfl Tryd.func32 rfl rfl rfl (by simp only [List.length_cons,List.length_nil]; decide) (by simp only [go_sem]) ?_
 simp only [ini,go_sem]
 have c1 := True.intro
 have hy := True.intro
 refine Tr.w hcx [] _ [none,none,none,none] rfl rfl rfl ?_ X_fc32
 refine Tr.seqK fun K1 hK1 => ?_
 refine Tr.w hcx [] _ [] rfl rfl rfl ?_ X_fc32
 refine Tr.blk ?_
 refine Tr.f1 hcx 1 (iD id) ?_
 refine Tr.k [3,4,5,9] ?_
 refine Tr.m1 hcx [2,3] ?_
 refine Tr.rfF ((rdW w).length) (xsW w) (fun i => [some [.val (nI 0),.val (nI 0),.val (nI 0)],some [.val (.bool false)]]) (fun i => ∀ j,j < i → ¬ (gt (rdW w) j).2.1 = id) rfl (⟨it93 hcx w hw,fun i => (RowN.nil.c rfl rfl).c rfl rfl⟩) (fun i hi => rfl) (by decide) (rfl) (fun j hj => by omega) ?rb_1 ?rd_1
 case rb_1 =>
  intro i hi hF
  replace hcx := hcx.rnd
  have hMO := @hMOT
  simp only [go_sem]
  refine Tr.w hcx [] _ [none] rfl rfl rfl ?_ X_fc32
  refine Tr.v hcx [] _ [none] rfl rfl rfl ?_ X_fc32
  refine ⟨rfl,?_⟩
  refine Tr.k [3,4,5,6,7] ?_
  refine Tr.blk ?_
  by_cases c1 : (gt (rdW w) i).2.1 = id
  ·
   have hR := fnd_T hi hF c1
   refine Tr.w hcx [] _ [] rfl rfl rfl ?_ X_fc32
   refine Tr.cT rfl ?_
   refine Tr.w hcx [] _ [] rfl rfl rfl ?_ X_fc32
   exact Tr.ret (RoundQ.r F_fc32)
  skip
  refine Tr.w hcx [] _ [] rfl rfl rfl ?_ X_fc32
  refine Tr.cF rfl ?_
  refine Tr.skip ?_
  exact RoundQ.c (⟨rfl,fun j hj => (Nat.lt_succ_iff_lt_or_eq.1 hj).elim (hF j) (fun e => by subst e; simpa using c1)⟩)
 case rd_1 =>
  intro hF
  have hR := fnd_F hF
  refine hK1 _ ?_
  refine Tr.w hcx [] _ [] rfl rfl rfl ?_ X_fc32
  exact Tr.ret F_fc32
end Go.Sx
namespace Go.Sx
open Go.RowKit Go.Proofs
set_option maxRecDepth 100000
set_option maxHeartbeats 8000000
end Go.Sx
namespace Go.Sx
open Go.RowKit Go.Proofs
def I64 (x : Int) : Prop := -9223372036854775808 ≤ x ∧ x ≤ 9223372036854775807
instance (x : Int) : Decidable (I64 x) := by unfold I64; exact inferInstance
def IdOk (x : ID) : Prop := I64 x.1 ∧ I64 x.2.1 ∧ I64 x.2.2
instance (x : ID) : Decidable (IdOk x) := by unfold IdOk; exact inferInstance
def kmW (t : TypeId) (u : Value) : Bool := t == 34 && (match u with
  | .agg vs => (match vs.toList with
    | [.int .i64 a,.int .i64 b,.int .i64 c] => decide (IdOk (a,b,c))
    | _ => false)
  | _ => false)
def keyI (x : ID) : Value := .agg #[.int .i64 x.1,.int .i64 x.2.1,.int .i64 x.2.2]
theorem km_keyI {x : ID} (h : IdOk x) : kmW 34 (keyI x) = true := by
  obtain ⟨a,b,c⟩ := x
  show (true && decide (IdOk (a,b,c))) = true
  rw [Bool.true_and]; exact decide_eq_true h
theorem wk_laid : laidOutB Tryd.prog = true := by kernel_rfl
theorem wk_row : (34 : TypeId) < Tryd.prog.types.size := of_decide_eq_true (by kernel_rfl)
theorem wk_u34 : Tryd.prog.underlying 34 = some (.struct #[Field.mk "By" 3 0 false "" "" 0, Field.mk "Seq" 3 1 false "" "" 8, Field.mk "K" 3 2 false "" "" 16]) := by kernel_rfl
theorem wk_u3 : Tryd.prog.underlying 3 = some (.int .i64) := by kernel_rfl
theorem wk_c34 : Tryd.prog.cellsOf 34 = 3 := by kernel_rfl
theorem wk_c3 : Tryd.prog.cellsOf 3 = 1 := by kernel_rfl
theorem wk_k34 : Tryd.prog.keyType 34 = true := by kernel_rfl
theorem wk_at34 : Tryd.prog.keyTypeAt 2 34 = true := by kernel_rfl
theorem wk_law : WideMaps.KeyLaw Tryd.prog 34 := deep_law_laid wk_laid (m := 2) (Nat.le_of_ble_eq_true rfl) wk_row wk_at34 (by rw [wk_u34])
theorem keyOf_G {P : Program} (hsz : 34 < P.types.size) (u34 : P.underlying 34 = some (.struct #[Field.mk "By" 3 0 false "" "" 0, Field.mk "Seq" 3 1 false "" "" 8, Field.mk "K" 3 2 false "" "" 16])) (u3 : P.underlying 3 = some (.int .i64)) (c34 : P.cellsOf 34 = 3) (c3 : P.cellsOf 3 = 1) (k34 : P.keyType 34 = true)
    (a b c : Int) (h : IdOk (a,b,c)) : ∃ l,Go.keyOf P 34 (.agg #[.int .i64 a,.int .i64 b,.int .i64 c]) = some l := by
  obtain ⟨n,hn⟩ : ∃ n,P.types.size + 1 = n + 2 := ⟨P.types.size - 1,by omega⟩
  have hmin : IntKind.i64.min = -9223372036854775808 := by decide
  have hmax : IntKind.i64.max = 9223372036854775807 := by decide
  have hw : ∀ x : Int,I64 x → (Lit.int .i64 x).wf = true := fun x hx => by
    unfold I64 at hx
    simp only [Lit.wf,hmin,hmax,Bool.and_eq_true,decide_eq_true_eq]; omega
  have hk : P.keyLits (n + 2) 34 [.int .i64 a,.int .i64 b,.int .i64 c] = some [.int .i64 a,.int .i64 b,.int .i64 c] := by
    simp [Program.keyLits,u34,u3,c34,c3,hw a h.1,hw b h.2.1,hw c h.2.2]
  refine ⟨Lit.string (keyBytes [.int .i64 a,.int .i64 b,.int .i64 c]),?_⟩
  unfold Go.keyOf
  rw [u34]
  have hf : (Value.agg #[.int .i64 a,.int .i64 b,.int .i64 c]).formed P 34 = true := by simp [Value.formed,u34,c34]
  simp only [k34,hf,Bool.and_self,if_true,hn]
  have hc : (Value.agg #[.int .i64 a,.int .i64 b,.int .i64 c]).cells.toList = [.int .i64 a,.int .i64 b,.int .i64 c] := rfl
  rw [hc,hk]; rfl
theorem km_okW (k : TypeId) (u : Value) (h : kmW k u = true) : Go.Maps.Keyed Tryd.prog k ∧ ∃ l,Go.keyOf Tryd.prog k u = some l := by
  unfold kmW at h
  simp only [Bool.and_eq_true,beq_iff_eq] at h
  obtain ⟨rfl,h⟩ := h
  refine ⟨Go.Maps.Keyed.of_law wk_law,?_⟩
  split at h
  · rename_i vs
    split at h
    · rename_i a b c hl
      have hv : vs = #[.int .i64 a,.int .i64 b,.int .i64 c] := by apply Array.ext'; rw [hl]
      subst hv
      exact keyOf_G wk_row wk_u34 wk_u3 wk_c34 wk_c3 wk_k34 a b c (of_decide_eq_true h)
    · cases h
  · cases h
def entI : List ID → List C
  | [] => []
  | x :: M => .val (keyI x) :: .val (.bool true) :: entI M
theorem entI_app : ∀ (M N : List ID),entI (M ++ N) = entI M ++ entI N
  | [],_ => rfl
  | x :: M,N => by simp only [List.cons_append,entI,entI_app M N]
theorem entI_nr (k : Nat) : ∀ M,noRefs k (entI M) = true
  | [] => rfl
  | x :: M => by simp only [entI,noRefs,noRef,entI_nr k M,Bool.and_self]
theorem vq_keyI (x y : ID) : vq (keyI x) (keyI y) = some (decide (x = y)) := by
  obtain ⟨a,b,c⟩ := x
  obtain ⟨a',b',c'⟩ := y
  show vqs [.int .i64 a,.int .i64 b,.int .i64 c] [.int .i64 a',.int .i64 b',.int .i64 c'] = _
  have k : ∀ x y : Int,(x == y) = decide (x = y) := fun x y => by by_cases h : x = y <;> simp [h]
  by_cases h1 : a = a' <;> by_cases h2 : b = b' <;> by_cases h3 : c = c' <;> simp [vqs,vq1,k,h1,h2,h3]
def OkI (M : List ID) : Prop := M.Nodup ∧ ∀ x ∈ M,IdOk x
theorem OkI.tail {y : ID} {M : List ID} (h : OkI (y :: M)) : OkI M := ⟨(List.nodup_cons.1 h.1).2,fun x hx => h.2 x (List.mem_cons_of_mem _ hx)⟩
theorem mfindI_none {cx : Cx} (hk : cx.km = kmW) (x : ID) : ∀ (M : List ID) (i : Nat),OkI M → x ∉ M → mfind cx 34 (keyI x) (entI M) i = some none
  | [],_,_,_ => rfl
  | y :: M,i,hM,h => by
    simp only [List.mem_cons,not_or] at h
    simp only [entI,mfind,hk,km_keyI (hM.2 y (List.mem_cons_self ..)),if_true,vq_keyI,decide_eq_false h.1]
    exact mfindI_none hk x M (i + 1) hM.tail h.2
theorem mfindI_some {cx : Cx} (hk : cx.km = kmW) (x : ID) : ∀ (M : List ID) (i : Nat),x ∈ M → OkI M → ∃ j,mfind cx 34 (keyI x) (entI M) i = some (some (i + j,.val (.bool true))) ∧ M[j]? = some x
  | [],_,h,_ => by simp at h
  | y :: M,i,h,nd => by
    obtain ⟨n1,n2⟩ := List.nodup_cons.1 nd.1
    have hy := km_keyI (nd.2 y (List.mem_cons_self ..))
    by_cases e : x = y
    · subst e
      simp only [entI,mfind,hk,hy,if_true,vq_keyI,decide_true,mfindI_none hk x M (i + 1) nd.tail n1]
      exact ⟨0,rfl,rfl⟩
    · simp only [entI,mfind,hk,hy,if_true,vq_keyI,decide_eq_false e]
      obtain ⟨j,h1,h2⟩ := mfindI_some hk x M (i + 1) (by simpa [e] using h) nd.tail
      refine ⟨j + 1,?_,by simpa using h2⟩
      rw [h1,show i + 1 + j = i + (j + 1) from by omega]
end Go.Sx
namespace Go.Sx
open Go.RowKit Go.Proofs
theorem kt92 : mapKT Tryd.prog 92 = some (34,4) := by kernel_rfl
def insI (M : List ID) (x : ID) : List ID := if x ∈ M then M else M ++ [x]
theorem entI_get : ∀ (M : List ID) (j : Nat) (x : ID),M[j]? = some x → (entI M).set (2 * j + 1) (.val (.bool true)) = entI M ∧ (entI M).take (2 * j) ++ (entI M).drop (2 * j + 2) = entI (M.eraseIdx j)
  | [],j,x,h => by simp at h
  | y :: M,0,x,h => by simp [entI]
  | y :: M,j + 1,x,h => by
    obtain ⟨h1,h2⟩ := entI_get M j x (by simpa using h)
    rw [show 2 * (j + 1) + 1 = 2 * j + 1 + 1 + 1 from by omega,show 2 * (j + 1) = 2 * j + 1 + 1 from by omega,show 2 * j + 1 + 1 + 2 = 2 * j + 2 + 1 + 1 from by omega]
    simp only [entI,List.set_cons_succ,List.take_succ_cons,List.drop_succ_cons,List.cons_append,List.eraseIdx_cons_succ,h1,h2,and_self]
theorem zv4 : zvC Tryd.prog 4 = some (.val (.bool false)) := by kernel_rfl
theorem erase_idx : ∀ {M : List ID},M.Nodup → ∀ {j : Nat} {x : ID},M[j]? = some x → M.eraseIdx j = M.erase x
  | [],_,j,x,h => by simp at h
  | y :: M,nd,0,x,h => by
    simp at h; subst h
    rw [List.erase_cons_head,List.eraseIdx_cons_zero]
  | y :: M,nd,j + 1,x,h => by
    have h : M[j]? = some x := by simpa using h
    obtain ⟨n1,n2⟩ := List.nodup_cons.1 nd
    have hx : x ∈ M := List.mem_of_getElem? h
    have hne : y ≠ x := fun e => n1 (e ▸ hx)
    rw [List.eraseIdx_cons_succ,List.erase_cons_tail (by simpa using hne),erase_idx n2 h]
section
variable {cx : Cx} (hP : cx.P = Tryd.prog) (hk : cx.km = kmW) {b : Nat} {h : Hp} {M : List ID} (hm : h.mp b = some (entI M)) (hM : OkI M) {x : ID} (hx : IdOk x)
include hP hk hm hM hx
theorem put_I : mputF cx 92 b (keyI x) (.val (.bool true)) h = some (.val undef,h.set b (some (mapC (entI (insI M x))))) := by
  unfold mputF
  rw [hP,kt92]
  simp only [hk,km_keyI hx,if_true,hm,Option.bind_some]
  by_cases e : x ∈ M
  · obtain ⟨j,h1,h2⟩ := mfindI_some hk x M 0 e hM
    rw [h1,Option.map_some]
    unfold mputR insI
    simp only [Nat.zero_add,(entI_get M j x h2).1,if_pos e]
  · rw [mfindI_none hk x M 0 hM e,Option.map_some]
    unfold mputR insI
    simp only [if_neg e,entI_app]
    rfl
theorem del_I : mdelF cx 92 b (keyI x) h = some (.val (.tuple #[]),h.set b (some (mapC (entI (M.erase x))))) := by
  unfold mdelF
  rw [hP,kt92]
  simp only [hk,km_keyI hx,if_true,hm,Option.bind_some]
  by_cases e : x ∈ M
  · obtain ⟨j,h1,h2⟩ := mfindI_some hk x M 0 e hM
    rw [h1,Option.map_some]
    unfold mdelR
    simp only [Nat.zero_add,(entI_get M j x h2).2,erase_idx hM.1 h2]
  · rw [mfindI_none hk x M 0 hM e,Option.map_some]
    unfold mdelR
    simp only [List.erase_of_not_mem e]
theorem look_I : mlookF cx 92 b (keyI x) false h = some (.val (.bool (decide (x ∈ M))),h) := by
  unfold mlookF
  rw [hP,kt92]
  simp only [hk,km_keyI hx,if_true,hm,Option.bind_some]
  by_cases e : x ∈ M
  · obtain ⟨j,h1,h2⟩ := mfindI_some hk x M 0 e hM
    rw [h1,Option.bind_some]
    unfold mlookR
    rw [decide_eq_true e]; rfl
  · rw [mfindI_none hk x M 0 hM e,Option.bind_some]
    unfold mlookR
    rw [decide_eq_false e]
    simp only [hP,zv4,Option.map_some]; rfl
end
theorem OkI.nil : OkI [] := ⟨List.nodup_nil,fun x h => by cases h⟩
theorem OkI.ins {M : List ID} (hM : OkI M) {x : ID} (hx : IdOk x) : OkI (insI M x) := by
  unfold insI
  split
  · exact hM
  · rename_i e
    refine ⟨List.nodup_append.2 ⟨hM.1,by simp,fun a ha b hb => ?_⟩,fun y hy => ?_⟩
    · simp at hb; subst hb; exact fun q => e (q ▸ ha)
    · rcases List.mem_append.1 hy with hy | hy
      · exact hM.2 y hy
      · simp at hy; subst hy; exact hx
theorem OkI.del {M : List ID} (hM : OkI M) (x : ID) : OkI (M.erase x) := ⟨hM.1.erase x,fun y hy => hM.2 y (List.mem_of_mem_erase hy)⟩
end Go.Sx
namespace Go.Sx
open Go.RowKit Go.Proofs
set_option maxRecDepth 100000
set_option maxHeartbeats 8000000
noncomputable def cxM (gl : Nat → C) (M : Nat) (pu : Nat → List C → Option C) : Cx := ⟨Tryd.prog,M,gl,pu,fun _ _ _ => none,fun _ => false,kmW,true⟩
noncomputable def cxMT (gl : Nat → C) (M : Nat) (pu : Nat → List C → Option C) : Cx := ⟨Tryd.prog,M,gl,pu,fun _ _ _ => none,fun _ => false,kmW,false⟩
theorem cxM_of {gl : Nat → C} {M : Nat} {pu : Nat → List C → Option C} (hcx : CxOK (cxP gl M pu)) : CxOK (cxM gl M pu) := ⟨hcx.glo,hcx.pu,(fun _ _ _ _ _ h => by cases h),km_okW⟩
section
variable {gl : Nat → C} {M : Nat} {pu : Nat → List C → Option C}
theorem cxM_P : (cxM gl M pu).P = Tryd.prog := rfl
theorem cxM_N : (cxM gl M pu).N = M := rfl
theorem cxM_pu : (cxM gl M pu).pu = pu := rfl
theorem cxM_gr (d : Option Nat) : isG (cxM gl M pu) d = false := by cases d <;> rfl
theorem cxMT_P : (cxMT gl M pu).P = Tryd.prog := rfl
theorem cxMT_N : (cxMT gl M pu).N = M := rfl
theorem cxMT_pu : (cxMT gl M pu).pu = pu := rfl
theorem cxMT_gr (d : Option Nat) : isG (cxMT gl M pu) d = false := by cases d <;> rfl
theorem Tr.rfM {n : Nat} {Q : Ex → St → Prop} {g f m : Nat} {ps : List Nat} {assign body : Code} {e : List (Nat × C)} {h : Hp} {caps : List C} (N : Nat) (xs : Nat → List C) (H : Nat → Hp) (R : Nat → Hp → Prop) (hg : A e g = .fn f caps) (hI : ItrB Tryd.prog gl f caps N xs R ∧ ∀ i,R m (H i))
    (hx : ∀ i,i < N → (xs i).length = ps.length) (hp : ∀ p ∈ ps,p < M) (h0 : h = H 0)
    (hb : ∀ i,i < N → Tr (cxMT gl M pu) (H i).length assign ⟨A (bindL ps (xs i) (nrE e)),H i⟩ fun x s => x = .normal ∧ Tr (cxMT gl M pu) (H i).length body s (RoundQ (H i).length (fun k => k = H (i + 1)) fun x h' => Q x ⟨A e,h'⟩))
    (hd : Q .normal ⟨A e,H N⟩) : Tr (cxM gl M pu) n (.rangeFunc (.tmp g) ps.toArray assign body) ⟨A e,h⟩ Q :=
  Tr.rfB (cx := cxM gl M pu) rfl N xs H hg hI.1 m hI.2 hx hp h0 hb hd
end
attribute [go_sem] cxM_P cxM_N cxM_pu cxM_gr cxMT_P cxMT_N cxMT_pu cxMT_gr
theorem td92 : td Tryd.prog 92 = some ⟨.map 34 4,1,8,[.map none]⟩ := by kernel_rfl
theorem mkm92 : mnewPlan Tryd.prog 92 = some (.mo mnewF) := mnew_eq kt92
theorem mput92 (cx : Cx) (b : Nat) (x : ID) (v : C) : mputPlan cx 92 (.mp b) (.agg (iD x)) v = some (.mo (mputF cx 92 b (keyI x) v)) := mput_eq cx 92 b _ v _ rfl
theorem mlook92 (cx : Cx) (b : Nat) (x : ID) (ok : Bool) : mlookPlan cx 92 (.mp b) (.agg (iD x)) ok = some (.mo (mlookF cx 92 b (keyI x) ok)) := mlook_eq cx 92 b _ _ ok rfl
theorem mdel92 (cx : Cx) (b : Nat) (x : ID) : mdelPlan cx 92 (.mp b) (.agg (iD x)) = some (.mo (mdelF cx 92 b (keyI x))) := mdel_eq cx 92 b _ _ rfl
theorem store_mpW {P : Program} (t : TypeId) (b o m : Nat) (k : Option Nat) : storePlan P t (.bp b o) (.mp m) k = stB (td P t) b o (some [.mp m]) := by
  unfold storePlan stB; cases td P t <;> rfl
theorem oc_nm : (Value.map none).oneCell' = true := rfl
attribute [go_sem] td92 mkm92 mput92 mlook92 mdel92 oc_nm store_mpW
theorem cxP_of {gl : Nat → C} {M : Nat} {pu : Nat → List C → Option C} (hcx : CxOK (cxM gl M pu)) : CxOK (cxP gl M pu) := ⟨hcx.glo,hcx.pu,(fun _ _ _ _ _ h => by cases h),fun _ _ h => by cases h⟩
theorem RowN.m {n : Nat} {h : Hp} {l : List C} (H : RowN n h) (h1 : noRefs 0 (mapC l) = true) : RowN (n + 1) (some (mapC l) :: h) :=
  ⟨by simp [H.len],by rw [noRefH_some,h1,H.nr]; rfl,fun j hj => by
    cases j with
    | zero => left; rw [mp_cons0]; simp [mpL,mapC]
    | succ j =>
      have := H.lv j (by omega)
      rw [at_consS,mp_consS]
      simpa using this⟩
theorem fzCs_map0 (ok : Nat → Bool) (b : Nat) (ys : List C) : fzCs ok b ys (mapC []) = mapC [] := by simp only [mapC,fzCs,fzC]
attribute [go_sem] mpL_mapC fzCs_map0
theorem mapI_nrk (k : Nat) (M : List ID) : noRefs k (mapC (entI M)) = true := by simp only [mapC,noRefs,noRef,entI_nr,Bool.and_self]
attribute [go_sem] mapI_nrk
theorem gt_memI (l : List ID) (i : Nat) (h : i < l.length) : gt l i ∈ l := by simp [gt,List.getD,List.getElem?_eq_getElem h]
theorem mapI_nr (M : List ID) : noRefs 0 (mapC (entI M)) = true := by simp only [mapC,noRefs,noRef,entI_nr,Bool.and_self]
def ordS (M : List ID) : List Psg → List ID × List ID
  | [] => (M,[])
  | p :: l => if p.1 ∈ M then ((ordS (M.erase p.1) l).1,p.1 :: (ordS (M.erase p.1) l).2) else ordS M l
theorem ordS_len : ∀ (M : List ID) (l : List Psg),(ordS M l).2.length ≤ l.length
  | M,[] => Nat.le_refl _
  | M,q :: l => by
    simp only [ordS]
    split
    · have := ordS_len (M.erase q.1) l
      simp only [List.length_cons]; omega
    · have := ordS_len M l
      simp only [List.length_cons]; omega
def insL (l : List ID) : List ID := l.foldl insI []
theorem insL_sn (l : List ID) (i : Nat) (h : i < l.length) : insI (insL (l.take i)) (gt l i) = insL (l.take (i + 1)) := by
  rw [← take_sn l i h]; unfold insL; rw [List.foldl_append]; rfl
theorem ordS_app : ∀ (M : List ID) (l : List Psg) (p : Psg),ordS M (l ++ [p]) = if p.1 ∈ (ordS M l).1 then ((ordS M l).1.erase p.1,(ordS M l).2 ++ [p.1]) else ordS M l
  | M,[],p => by by_cases h : p.1 ∈ M <;> simp [ordS,h]
  | M,q :: l,p => by
    simp only [List.cons_append,ordS]
    split
    · rw [ordS_app (M.erase q.1) l p]
      split <;> simp
    · exact ordS_app M l p
theorem ordS_ok : ∀ (M : List ID) (l : List Psg),OkI M → OkI (ordS M l).1
  | M,[],h => h
  | M,q :: l,h => by
    simp only [ordS]
    split
    · exact ordS_ok (M.erase q.1) l (h.del q.1)
    · exact ordS_ok M l h
theorem insL_ok {l : List ID} (h : ∀ x ∈ l,IdOk x) : OkI (insL l) := by
  have : ∀ (l M : List ID),OkI M → (∀ x ∈ l,IdOk x) → OkI (l.foldl insI M) := fun l => by
    induction l with
    | nil => intro M hM _; exact hM
    | cons x l ih => intro M hM hl; exact ih _ (hM.ins (hl x (List.mem_cons_self ..))) fun y hy => hl y (List.mem_cons_of_mem _ hy)
  exact this l [] OkI.nil h
theorem X_fc28 {p : Prop} (e : p := by intro KZ hZ; simp -implicitDefEqProofs (disch := first | omega | (simp only [go_sem,lA,lD,lT,hT] <;> omega) | decide) only [go_sem,↓reduceIte,Nat.reduceEqDiff,reduceCtorEq,Nat.reduceLT,Nat.reduceBEq,Nat.reduceAdd,h53,ep,c1,hy]; with_reducible exact hZ) : p := e
theorem F_fc28 {p : Prop} (e : p := by simp -implicitDefEqProofs (disch := first | omega | (simp only [go_sem,lA,lD,lT,hT] <;> omega) | decide) only [go_sem,↓reduceIte,Nat.reduceEqDiff,reduceCtorEq]; all_goals (rfl)) : p := e
theorem fc28 {gl : Nat → C} {M : Nat} {pu : Nat → List C → Option C} (hcx : CxOK (cxM gl M pu)) (h53 : ∀ w : Wrk,pu 53 [.agg [sl vC .no w]] = some (.fn 93 [.kp [sl vC .no w]])) (w : Wrk) (l : List ID) (hw : WS w) (hl : ∀ x ∈ l,IdOk x) (hl2 : l.length ≤ 1000000) (hid : ∀ i,i < (rdW w).length → IdOk (gt (rdW w) i).2.1) : FC Tryd.prog gl 28 [.agg [sl vC .no w],sl iD .no l] [] (sl iD .no (ordS (insL l) (alW w)).2) [] := by
 replace hcx := hcx.reN (M := 38)
 refine FC.ofA (cx := cxM gl 38 pu) (rs := [.tmp 4]) rfl Tryd.func28 rfl rfl rfl (by simp only [List.length_cons,List.length_nil]; decide) (by simp only [go_sem]) ?_
 simp only [ini,go_sem]
 have c1 := True.intro
 have hy := True.intro
 have ep := True.intro
 have hT := True.intro
 have hmv := fun (ρ : List Nat) (M : List ID) => mvCs_nr ρ (mapC (entI M)) (mapI_nr M)
 refine Tr.w hcx [] _ [none] rfl rfl rfl ?_ X_fc28
 refine Tr.w hcx [] _ [none] rfl rfl rfl ?_ X_fc28
 refine Tr.seqK fun K1 hK1 => ?_
 refine Tr.f1 hcx 0 [sl vC .no w] ?_
 refine Tr.f1 hcx 1 [.mp 2] ?_
 refine Tr.k [1,2,5] ?_
 refine Tr.m1 hcx [2] ?_
 refine Tr.w hcx [] _ [] rfl rfl rfl ?_ X_fc28
 refine Tr.k [2,5,12,13,14] ?_
 refine Tr.blk ?_
 refine Tr.loopM hcx (α := Nat) (fun a => [(2,?v2_1),(5,?v5_1),(12,?v12_1),(13,?v13_1),(14,.val (nI a))]) (fun a => [some (mapC (entI (insL (l.take a))))]) (fun a => a ≤ l.length) (fun a => l.length - a) (0) (Nat.zero_le _) ?le_1 ?hh_1 ?bd_1
 case hh_1 => exact rfl
 case le_1 => exact LT
 rintro i hi
 refine Tr.w hcx [] _ [] rfl rfl rfl ?_ X_fc28
 refine Tr.seqK fun K2 hK2 => ?_
 refine Tr.cD rfl (fun hc15 => ?_) (fun hc15 => ?_)
 ·
  have ex : IdOk (gt l i) := hl _ (gt_memI l i hc15)
  have hM : OkI (insL (l.take i)) := insL_ok fun x hx => hl x (List.mem_of_mem_take hx)
  have ep := put_I (cx := ⟨Tryd.prog,38,gl,pu,fun _ _ _ => none,fun _ => false,kmW,true⟩) rfl rfl (h := [some (mapC (entI (insL (l.take i)))),some (iD (gt l i))]) (b := 0) rfl hM ex
  refine Tr.skip ?_
  refine hK2 _ ?_
  refine Tr.seqK fun K3 hK3 => ?_
  refine Tr.blk ?_
  refine Tr.w hcx [] _ [none] rfl rfl rfl ?_ X_fc28
  have hy := @ep
  refine Tr.v hcx [] _ [] rfl rfl rfl ?_ X_fc28
  refine hK3 _ ?_
  have hy := True.intro
  refine Tr.v hcx [] _ [] rfl rfl rfl ?_ X_fc28
  first
  | exact ⟨[0],⟨by decide,by decide,by decide⟩,i + 1,⟨(by omega),O1⟩,LM,by simp only [mvH_eq,mvHa_nil,mvHa_cons,hget_0,hget_S,Option.map_some,Option.map_none,mvCs_cl,mvCs_f,mvCs_nil,mvCs_cons,mvC_val,mvC_top,mvC_sl,mvC_gv,mvC_sv,mvC_bp,mvC_agg,mvC_kp,mvGv_some,mvGv_none,mvSv_some,mvSv_none,mvBp_some,mvBp_none,loc_nil,loc_cons,↓reduceIte,Nat.reduceEqDiff,reduceCtorEq,Nat.reduceAdd,Nat.zero_add,Nat.one_ne_zero,Nat.zero_ne_one,mvC_fn,mvC_bt,mvBt_some,mvBt_none,mvC_mp,mvMp_some,mvMp_none,hmv]; rw [insL_sn l _ hc15]⟩
 obtain rfl : i = l.length := by omega
 rw [List.take_length]
 refine Tr.exit ?_
 refine hK1 _ ?_
 refine Tr.w hcx [] _ [none] rfl rfl rfl ?_ X_fc28
 refine Tr.seqK fun K4 hK4 => ?_
 refine Tr.w hcx [] _ [] rfl rfl rfl ?_ X_fc28
 refine Tr.blk ?_
 refine Tr.k [5,8,22] ?_
 refine Tr.bxc 1 0 (sl iD (.own 3) []) _ rfl rfl (CLe_sln rfl) rfl ?_
 simp only [List.set_cons_succ,List.set_cons_zero]
 refine Tr.rfM ((rdW w).length) (xsW w) (fun i => [some (mapC (entI (ordS (insL l) ((alW w).take i)).1)),some [sl iD (.own 3) (ordS (insL l) ((alW w).take i)).2]]) (RowN) rfl (⟨it93 (cxP_of hcx) w hw.1,fun i => (RowN.nil.c (by simp only [noRefs_cons,noRefs_nil,noRef_sl,Bool.and_self]) rfl).m (mapI_nr _)⟩) (fun i hi => rfl) (by decide) (rfl) ?rb_2 ?rd_2
 case rb_2 =>
  intro i hi
  replace hcx := hcx.rnd
  have hMO := @hMOT
  simp only [go_sem]
  have eP := alW_gt w i hi
  have hM : OkI (ordS (insL l) ((alW w).take i)).1 := ordS_ok _ _ (insL_ok hl)
  have hT : (ordS (insL l) ((alW w).take i)).2.length ≤ i := Nat.le_trans (ordS_len _ _) (by rw [List.length_take]; omega)
  have hw2 := hw.2.1
  have ex := hid i hi
  obtain ⟨P,hP⟩ : ∃ P,(gt (rdW w) i).2 = P := ⟨_,rfl⟩
  rw [hP] at ex eP
  rw [hP]
  have hS := ordS_app (insL l) ((alW w).take i) P
  rw [show (alW w).take i ++ [P] = (alW w).take (i + 1) from by rw [← eP]; exact take_sn _ _ (by rw [alW_len]; exact hi)] at hS
  obtain ⟨S,hSS⟩ : ∃ S,ordS (insL l) ((alW w).take i) = S := ⟨_,rfl⟩
  rw [hSS] at hM hS hT
  rw [hSS]
  have ep := And.intro (fun r => look_I (cx := cxMT gl 38 pu) rfl rfl (h := some (mapC (entI S.1)) :: r) (b := 0) rfl hM ex) (fun r => del_I (cx := cxMT gl 38 pu) rfl rfl (h := some (mapC (entI S.1)) :: r) (b := 0) rfl hM ex)
  refine Tr.v hcx [] _ [none] rfl rfl rfl ?_ X_fc28
  refine ⟨rfl,?_⟩
  refine Tr.k [5,8,10] ?_
  refine Tr.blk ?_
  by_cases c1 : P.1 ∈ S.1
  ·
   refine Tr.w hcx [] _ [] rfl rfl rfl ?_ X_fc28
   refine Tr.cT rfl ?_
   refine Tr.w hcx [29] _ [] rfl rfl rfl ?_ X_fc28
   refine Tr.v hcx [] _ [] rfl rfl rfl ?_ X_fc28
   exact RoundQ.c (by simp only [hS,if_pos c1]; rfl)
  refine Tr.w hcx [] _ [] rfl rfl rfl ?_ X_fc28
  refine Tr.cF rfl ?_
  refine Tr.skip ?_
  exact RoundQ.c (by simp only [hS,if_neg c1]; rfl)
 case rd_2 =>
  refine hK4 _ ?_
  rw [List.take_of_length_le (show (alW w).length ≤ (rdW w).length by rw [alW_len]; exact Nat.le_refl _)]
  refine Tr.w hcx [1000037] _ [] rfl rfl rfl ?_ X_fc28
  refine Tr.live [(4,sl iD .no (ordS (insL l) (alW w)).2)] (by simp only [Le_cons,Le_nil,↓A_cons,↓reduceIte,Nat.reduceEqDiff,and_true]; exact CLe.refl _) ?_
  exact Tr.ret F_fc28
end Go.Sx
namespace Go.Sx
open Go.RowKit Go.Proofs
set_option maxRecDepth 100000
set_option maxHeartbeats 8000000
theorem bsA_iD2 (u : TypeDesc) (y : Nat) (a b : ID) : bsA (some ⟨u,3,y,[nI 0,nI 0,nI 0]⟩) 2 [(0,.agg (iD a)),(1,.agg (iD b))] = some (vp (sl iD .full [a,b])) := rfl
theorem rda_iD2 (x y : ID) : rda (iD x ++ iD y) 0 3 = some (.agg (iD x)) := rfl
theorem ixI20 {l : List ID} (h : l.length = 2) : ixL (some ⟨.struct #[Field.mk "By" 3 0 false "" "" 0, Field.mk "Seq" 3 1 false "" "" 8, Field.mk "K" 3 2 false "" "" 16], 3, 24, [nI 0, nI 0, nI 0]⟩) (some 0) 2 (cl iD l) = some (vp (.kp (iD (gt l 0) ++ iD (gt l 1)))) := by
  rcases l with _ | ⟨x,_ | ⟨y,_ | ⟨z,l⟩⟩⟩
  · cases h
  · cases h
  · rfl
  · simp at h
attribute [go_sem] bsA_iD2 rda_iD2
theorem X_fc30 {p : Prop} (e : p := by intro KZ hZ; simp -implicitDefEqProofs (disch := first | omega | (simp only [go_sem,lA,lD,lT] <;> omega) | decide) only [go_sem,↓reduceIte,Nat.reduceEqDiff,reduceCtorEq,Nat.reduceLT,Nat.reduceBEq,Nat.reduceAdd,e28,eq_iD,hO,c1,c2,hy]; with_reducible exact hZ) : p := e
theorem Y_fc30 {p : Prop} (e : p := by intro KZ hZ; simp -implicitDefEqProofs (disch := first | omega | (simp only [go_sem,lA,lD,lT] <;> omega) | decide) only [go_sem,↓reduceIte,Nat.reduceEqDiff,reduceCtorEq,Nat.reduceLT,Nat.reduceBEq,Nat.reduceAdd,e28,eq_iD,hO,c1,c2,hy]; with_reducible refine And.intro ?_ hZ; first | exact rfl | decide) : p := e
theorem F_fc30 {p : Prop} (e : p := by simp -implicitDefEqProofs (disch := first | omega | (simp only [go_sem,lA,lD,lT] <;> omega) | decide) only [go_sem,↓reduceIte,Nat.reduceEqDiff,reduceCtorEq]; all_goals (simp [c1,c2])) : p := e
theorem fc30 {gl : Nat → C} {M : Nat} {pu : Nat → List C → Option C} (hcx : CxOK (cxP gl M pu)) (h28 : ∀ (w : Wrk) (l : List ID),WS w → (∀ x ∈ l,IdOk x) → l.length ≤ 1000000 → (∀ i,i < (rdW w).length → IdOk (gt (rdW w) i).2.1) → pu 28 [.agg [sl vC .no w],sl iD .no l] = some (sl iD .no (ordS (insL l) (alW w)).2)) (w : Wrk) (a b : ID) (hw : WS w) (ha : IdOk a) (hb : IdOk b) (hid : ∀ i,i < (rdW w).length → IdOk (gt (rdW w) i).2.1) : FC Tryd.prog gl 30 [.agg [sl vC .no w],.agg (iD a),.agg (iD b)] [] (.val (.bool (decide ((ordS (insL [a,b]) (alW w)).2.length = 2 ∧ gt (ordS (insL [a,b]) (alW w)).2 0 = a)))) [] := by
 replace hcx := hcx.reN (M := 23)
 refine FC.ofA (cx := cxP gl 23 pu) (rs := [.tmp 6]) rfl Tryd.func30 rfl rfl rfl (by simp only [List.length_cons,List.length_nil]; decide) (by simp only [go_sem]) ?_
 simp only [ini,go_sem]
 have c1 := True.intro
 have c2 := True.intro
 have hy := True.intro
 have e28 := h28 w [a,b] hw (by intro x hx; simp at hx; rcases hx with rfl | rfl <;> assumption) (by simp) hid
 obtain ⟨O,hO⟩ : ∃ O,(ordS (insL [a,b]) (alW w)).2 = O := ⟨_,rfl⟩
 rw [hO]
 rw [hO] at e28
 refine Tr.w hcx [] _ [none,none,none] rfl rfl rfl ?_ X_fc30
 refine Tr.w hcx [1000012] _ [] rfl rfl rfl ?_ X_fc30
 by_cases c1 : O.length = 2
 ·
  by_cases c2 : gt O 0 = a
  ·
   have x20 := ixI20 c1
   have hy := @x20
   refine Tr.wD hcx hMO [1000022] [some 13,some 14,some 15,some 16,some 17,some 18,some 19,some 20,some 21,some 22,some 6] [] rfl rfl rfl rfl ?_ Y_fc30
   exact Tr.ret F_fc30
  have x20 := ixI20 c1
  have hy := @x20
  refine Tr.wD hcx hMO [1000022] [some 13,some 14,some 15,some 16,some 17,some 18,some 19,some 20,some 21,some 22,some 6] [] rfl rfl rfl rfl ?_ Y_fc30
  exact Tr.ret F_fc30
 have x20 := True.intro
 have c2 := True.intro
 have hy := @x20
 refine Tr.wD hcx hMO [1000022] [some 13,some 14,some 15,some 16,some 17,some 18,some 19,some 20,some 21,some 22,some 6] [] rfl rfl rfl rfl ?_ Y_fc30
 exact Tr.ret F_fc30
end Go.Sx
namespace Go.Sx
open Go.RowKit Go.Proofs
set_option maxRecDepth 100000
set_option maxHeartbeats 8000000
theorem id_eq (a b : ID) : (a = b) = (a.1 = b.1 ∧ a.2.1 = b.2.1 ∧ a.2.2 = b.2.2) := by
  obtain ⟨a1,a2,a3⟩ := a; obtain ⟨b1,b2,b3⟩ := b
  simp
theorem ids_ext {a b : List ID} (h : a.length = b.length) (hn : ∀ j,j < a.length → gt a j = gt b j) : a = b := by
  refine List.ext_getElem h fun i h1 h2 => ?_
  have := hn i h1
  simpa [gt,List.getD,List.getElem?_eq_getElem h1,List.getElem?_eq_getElem h2] using this
theorem not_memI {l : List ID} {x : ID} (h : ∀ j,j < l.length → ¬ gt l j = x) : ¬ x ∈ l := fun hx => by
  obtain ⟨j,hj,rfl⟩ := List.getElem_of_mem hx
  exact h j hj (by simp [gt,List.getD,List.getElem?_eq_getElem hj])
theorem X_fc37 {p : Prop} (e : p := by intro KZ hZ; simp -implicitDefEqProofs (disch := first | omega | (simp only [go_sem,lA,lD,lT] <;> omega) | decide) only [go_sem,↓reduceIte,Nat.reduceEqDiff,reduceCtorEq,Nat.reduceLT,Nat.reduceBEq,Nat.reduceAdd,h60,hy]; with_reducible exact hZ) : p := e
theorem Y_fc37 {p : Prop} (e : p := by intro KZ hZ; simp -implicitDefEqProofs (disch := first | omega | (simp only [go_sem,lA,lD,lT] <;> omega) | decide) only [go_sem,↓reduceIte,Nat.reduceEqDiff,reduceCtorEq,Nat.reduceLT,Nat.reduceBEq,Nat.reduceAdd,h60,hy]; with_reducible refine And.intro ?_ hZ; first | exact rfl | decide) : p := e
theorem F_fc37 {p : Prop} (e : p := by simp -implicitDefEqProofs (disch := first | omega | (simp only [go_sem,lA,lD,lT] <;> omega) | decide) only [go_sem,↓reduceIte,Nat.reduceEqDiff,reduceCtorEq]; all_goals (simp [hR])) : p := e
theorem fc37 {gl : Nat → C} {M : Nat} {pu : Nat → List C → Option C} (hcx : CxOK (cxP gl M pu)) (h60 : ∀ a b : ID,pu 60 [.agg (iD a),.agg (iD b)] = some (.val (.bool (decide (a = b))))) (l : List ID) (x : ID) (hl : l.length ≤ 1000000) : FC Tryd.prog gl 37 [sl iD .no l,.agg (iD x)] [] (.val (.bool (decide (x ∈ l)))) [] := by
 replace hcx := hcx.reN (M := 18)
 refine FC.ofA (cx := cxP gl 18 pu) (rs := [.tmp 4]) rfl Tryd.func37 rfl rfl rfl (by simp only [List.length_cons,List.length_nil]; decide) (by simp only [go_sem]) ?_
 simp only [ini,go_sem]
 have hy := True.intro
 refine Tr.w hcx [] _ [none] rfl rfl rfl ?_ X_fc37
 refine Tr.seqK fun K1 hK1 => ?_
 refine Tr.w hcx [] _ [] rfl rfl rfl ?_ X_fc37
 refine Tr.k [0,3,5] ?_
 refine Tr.blk ?_
 refine Tr.loopI (α := Nat) (fun a => [(0,?v0_1),(3,?v3_1),(5,.val (nI a))]) (fun a => [some (iD x)]) (fun a => a ≤ l.length ∧ ∀ j,j < a → ¬ gt l j = x) (fun a => l.length - a) (0) ⟨Nat.zero_le _,fun j hj => by omega⟩ ?le_1 ?hh_1 ?bd_1
 case hh_1 => exact rfl
 case le_1 => exact LT
 rintro i ⟨hi,hn⟩
 refine Tr.seqK fun K2 hK2 => ?_
 refine Tr.w hcx [] _ [] rfl rfl rfl ?_ X_fc37
 refine Tr.cD rfl (fun hc9 => ?_) (fun hc9 => ?_)
 ·
  refine Tr.skip ?_
  refine hK2 _ ?_
  refine Tr.seqK fun K3 hK3 => ?_
  refine Tr.blk ?_
  refine Tr.wD hcx hMO [] _ [] rfl rfl rfl rfl ?_ Y_fc37
  refine Tr.cD rfl (fun hc17 => ?_) (fun hc17 => ?_)
  ·
   have hR : x ∈ l := hc17 ▸ gt_memI l i hc9
   refine Tr.w hcx [] _ [] rfl rfl rfl ?_ X_fc37
   exact Tr.ret F_fc37
  refine Tr.skip ?_
  refine hK3 _ ?_
  refine Tr.v hcx [1000011] _ [] rfl rfl rfl ?_ X_fc37
  exact ⟨i + 1,⟨⟨by omega,fun j hj => (Nat.lt_succ_iff_lt_or_eq.1 hj).elim (hn j) (fun e => by subst e; exact hc17)⟩,O1⟩,LT,rfl⟩
 obtain rfl : i = l.length := by omega
 have hR := not_memI hn
 refine Tr.exit ?_
 refine hK1 _ ?_
 refine Tr.w hcx [] _ [] rfl rfl rfl ?_ X_fc37
 exact Tr.ret F_fc37
theorem X_fc60 {p : Prop} (e : p := by intro KZ hZ; simp -implicitDefEqProofs (disch := first | omega | (simp only [go_sem,lA,lD,lT] <;> omega) | decide) only [go_sem,↓reduceIte,Nat.reduceEqDiff,reduceCtorEq,Nat.reduceLT,Nat.reduceBEq,Nat.reduceAdd,c1,c2,hy]; with_reducible exact hZ) : p := e
theorem F_fc60 {p : Prop} (e : p := by simp -implicitDefEqProofs (disch := first | omega | (simp only [go_sem,lA,lD,lT] <;> omega) | decide) only [go_sem,↓reduceIte,Nat.reduceEqDiff,reduceCtorEq]; all_goals (simp [id_eq,c1,c2])) : p := e
theorem fc60 {gl : Nat → C} {M : Nat} {pu : Nat → List C → Option C} (hcx : CxOK (cxP gl M pu)) (a b : ID) : FC Tryd.prog gl 60 [.agg (iD a),.agg (iD b)] [] (.val (.bool (decide (a = b)))) [] := by
 replace hcx := hcx.reN (M := 24)
 refine FC.ofA (cx := cxP gl 24 pu) (rs := [.tmp 4]) rfl Tryd.func60 rfl rfl rfl (by simp only [List.length_cons,List.length_nil]; decide) (by simp only [go_sem]) ?_
 simp only [ini,go_sem]
 have c1 := True.intro
 have c2 := True.intro
 have hy := True.intro
 refine Tr.w hcx [] _ [none,none] rfl rfl rfl ?_ X_fc60
 by_cases c1 : a.1 = b.1
 ·
  by_cases c2 : a.2.1 = b.2.1
  ·
   skip
   refine Tr.w hcx [1000023] [some 5,some 6,some 7,some 8,some 9,some 10,some 11,some 12,some 13,some 14,some 15,some 16,some 17,some 18,some 19,some 20,some 21,some 22,some 23,some 4] [] rfl rfl rfl ?_ X_fc60
   exact Tr.ret F_fc60
  skip
  refine Tr.w hcx [1000023] [some 5,some 6,some 7,some 8,some 9,some 10,some 11,some 12,some 13,some 14,some 15,some 16,some 17,some 18,some 19,some 20,some 21,some 22,some 23,some 4] [] rfl rfl rfl ?_ X_fc60
  exact Tr.ret F_fc60
 have c2 := True.intro
 refine Tr.w hcx [1000023] [some 5,some 6,some 7,some 8,some 9,some 10,some 11,some 12,some 13,some 14,some 15,some 16,some 17,some 18,some 19,some 20,some 21,some 22,some 23,some 4] [] rfl rfl rfl ?_ X_fc60
 exact Tr.ret F_fc60
theorem X_fc27 {p : Prop} (e : p := by intro KZ hZ; simp -implicitDefEqProofs (disch := first | omega | (simp only [go_sem,lA,lD,lT] <;> omega) | decide) only [go_sem,↓reduceIte,Nat.reduceEqDiff,reduceCtorEq,Nat.reduceLT,Nat.reduceBEq,Nat.reduceAdd,h60,c0,c1,hy]; with_reducible exact hZ) : p := e
theorem Y_fc27 {p : Prop} (e : p := by intro KZ hZ; simp -implicitDefEqProofs (disch := first | omega | (simp only [go_sem,lA,lD,lT] <;> omega) | decide) only [go_sem,↓reduceIte,Nat.reduceEqDiff,reduceCtorEq,Nat.reduceLT,Nat.reduceBEq,Nat.reduceAdd,h60,c0,c1,hy]; with_reducible refine And.intro ?_ hZ; first | exact rfl | decide) : p := e
theorem F_fc27 {p : Prop} (e : p := by simp -implicitDefEqProofs (disch := first | omega | (simp only [go_sem,lA,lD,lT] <;> omega) | decide) only [go_sem,↓reduceIte,Nat.reduceEqDiff,reduceCtorEq]; all_goals (simp [hR])) : p := e
theorem fc27 {gl : Nat → C} {M : Nat} {pu : Nat → List C → Option C} (hcx : CxOK (cxP gl M pu)) (h60 : ∀ a b : ID,pu 60 [.agg (iD a),.agg (iD b)] = some (.val (.bool (decide (a = b))))) (l m : List ID) (ha : l.length ≤ 1000000) (hb : m.length ≤ 1000000) : FC Tryd.prog gl 27 [sl iD .no l,sl iD .no m] [] (.val (.bool (decide (l = m)))) [] := by
 replace hcx := hcx.reN (M := 27)
 refine FC.ofA (cx := cxP gl 27 pu) (rs := [.tmp 4]) rfl Tryd.func27 rfl rfl rfl (by simp only [List.length_cons,List.length_nil]; decide) (by simp only [go_sem]) ?_
 simp only [ini,go_sem]
 have c0 := True.intro
 have c1 := True.intro
 have hy := True.intro
 refine Tr.w hcx [] _ [] rfl rfl rfl ?_ X_fc27
 refine Tr.seqK fun K1 hK1 => ?_
 by_cases c0 : (l.length = m.length) = True
 ·
  have hlm := of_eq_true c0
  refine Tr.w hcx [] _ [] rfl rfl rfl ?_ X_fc27
  refine Tr.cF rfl ?_
  refine Tr.skip ?_
  refine hK1 _ ?_
  refine Tr.seqK fun K2 hK2 => ?_
  refine Tr.w hcx [] _ [] rfl rfl rfl ?_ X_fc27
  refine Tr.k [0,1,5] ?_
  refine Tr.blk ?_
  refine Tr.loopI (α := Nat) (fun a => [(0,?v0_1),(1,?v1_1),(5,.val (nI a))]) (fun a => []) (fun a => a ≤ l.length ∧ ∀ j,j < a → gt l j = gt m j) (fun a => l.length - a) (0) ⟨Nat.zero_le _,fun j hj => by omega⟩ ?le_1 ?hh_1 ?bd_1
  case hh_1 => exact rfl
  case le_1 => exact LT
  rintro i ⟨hi,hn⟩
  refine Tr.seqK fun K3 hK3 => ?_
  refine Tr.w hcx [] _ [] rfl rfl rfl ?_ X_fc27
  refine Tr.cD rfl (fun hc14 => ?_) (fun hc14 => ?_)
  ·
   refine Tr.skip ?_
   refine hK3 _ ?_
   refine Tr.seqK fun K4 hK4 => ?_
   refine Tr.blk ?_
   by_cases c1 : gt l i = gt m i
   ·
    refine Tr.wD hcx hMO [] _ [] rfl rfl rfl rfl ?_ Y_fc27
    refine Tr.cF rfl ?_
    refine Tr.skip ?_
    refine hK4 _ ?_
    refine Tr.v hcx [1000016] _ [] rfl rfl rfl ?_ X_fc27
    exact ⟨i + 1,⟨⟨by omega,fun j hj => (Nat.lt_succ_iff_lt_or_eq.1 hj).elim (hn j) (fun e => by subst e; exact c1)⟩,O1⟩,LT,rfl⟩
   refine Tr.wD hcx hMO [] _ [] rfl rfl rfl rfl ?_ Y_fc27
   refine Tr.cT rfl ?_
   have hR : ¬ l = m := fun h => c1 (by rw [h])
   refine Tr.w hcx [] _ [] rfl rfl rfl ?_ X_fc27
   exact Tr.ret F_fc27
  obtain rfl : i = l.length := by omega
  have hR := ids_ext hlm hn
  refine Tr.exit ?_
  refine hK2 _ ?_
  refine Tr.w hcx [] _ [] rfl rfl rfl ?_ X_fc27
  exact Tr.ret F_fc27
 have c0 : (l.length = m.length) = False := eq_false (fun h => c0 (eq_true h))
 refine Tr.w hcx [] _ [] rfl rfl rfl ?_ X_fc27
 refine Tr.cT rfl ?_
 have hR : ¬ l = m := fun h => of_eq_false c0 (by rw [h])
 refine Tr.w hcx [] _ [] rfl rfl rfl ?_ X_fc27
 exact Tr.ret F_fc27
end Go.Sx
namespace Go.Sx
open Go.RowKit Go.Proofs
set_option maxRecDepth 100000
set_option maxHeartbeats 8000000
theorem psg_eq (a b : Psg) : (a = b) = (a.1 = b.1 ∧ a.2.1 = b.2.1 ∧ a.2.2.1 = b.2.2.1 ∧ a.2.2.2.1 = b.2.2.2.1 ∧ a.2.2.2.2 = b.2.2.2.2) := by
  obtain ⟨a1,a2,a3,a4,a5⟩ := a; obtain ⟨b1,b2,b3,b4,b5⟩ := b
  simp
def pA (V : Vol) (a : Nat) : List Psg := (V.take a).flatMap (·.2)
def pV (w : Wrk) (v : Nat) : List Psg := (w.take v).flatMap fun V => pA V V.length
theorem pA_S (V : Vol) (a : Nat) (h : a < V.length) : pA V (a + 1) = pA V a ++ (gt V a).2 := by
  unfold pA; rw [← take_sn V a h,List.flatMap_append]; simp
theorem pV_S (w : Wrk) (v : Nat) (h : v < w.length) : pV w (v + 1) = pV w v ++ pA (gt w v) (gt w v).length := by
  unfold pV; rw [← take_sn w v h,List.flatMap_append]; simp
theorem rdA_snd (v a : Nat) (l : List Psg) : (rdA v a l).map (·.2) = l := by
  refine List.ext_getElem (by simp [rdA]) fun i h1 h2 => ?_
  simp [rdA,gt,List.getD,List.getElem?_eq_getElem h2]
theorem rdV_snd (v : Nat) (V : Vol) : ∀ a,a ≤ V.length → ((List.range a).flatMap fun a => rdA v a (gt V a).2).map (·.2) = pA V a
  | 0,_ => rfl
  | a + 1,h => by rw [List.range_succ,List.flatMap_append,List.map_append,rdV_snd v V a (by omega),pA_S V a (by omega)]; simp [rdA_snd]
theorem rdW_snd (w : Wrk) : ∀ v,v ≤ w.length → ((List.range v).flatMap fun v => rdV v (gt w v)).map (·.2) = pV w v
  | 0,_ => rfl
  | v + 1,h => by
    rw [List.range_succ,List.flatMap_append,List.map_append,rdW_snd w v (by omega),pV_S w v (by omega)]
    have := rdV_snd v (gt w v) (gt w v).length (Nat.le_refl _)
    simp only [List.flatMap_cons,List.flatMap_nil,List.append_nil]
    exact congrArg _ this
theorem alW_eq (w : Wrk) : alW w = pV w w.length := rdW_snd w _ (Nat.le_refl _)
theorem pV_le (w : Wrk) (v : Nat) : (pV w v).length ≤ (alW w).length := by
  rw [alW_eq]
  unfold pV
  rw [List.take_length]
  conv => rhs; rw [← List.take_append_drop v w]
  rw [List.flatMap_append,List.length_append]; omega
theorem pA_le (V : Vol) (a : Nat) : (pA V a).length ≤ (pA V V.length).length := by
  unfold pA
  rw [List.take_length]
  conv => rhs; rw [← List.take_append_drop a V]
  rw [List.flatMap_append,List.length_append]; omega
theorem pVA_le (w : Wrk) (v a : Nat) (h : v < w.length) : (pV w v).length + (pA (gt w v) a).length ≤ (alW w).length := by
  have h1 := pV_le w (v + 1)
  rw [pV_S w v h,List.length_append] at h1
  have := pA_le (gt w v) a
  omega
theorem X_fc36 {p : Prop} (e : p := by intro KZ hZ; simp -implicitDefEqProofs (disch := first | omega | (simp only [go_sem,lA,lD,lT] <;> omega) | decide) only [go_sem,↓reduceIte,Nat.reduceEqDiff,reduceCtorEq,Nat.reduceLT,Nat.reduceBEq,Nat.reduceAdd,h60,e27,c1,c2,c3,c4,hy]; with_reducible exact hZ) : p := e
theorem F_fc36 {p : Prop} (e : p := by simp -implicitDefEqProofs (disch := first | omega | (simp only [go_sem,lA,lD,lT] <;> omega) | decide) only [go_sem,↓reduceIte,Nat.reduceEqDiff,reduceCtorEq]; all_goals (simp [psg_eq,c1,c2,c3,c4])) : p := e
theorem fc36 {gl : Nat → C} {M : Nat} {pu : Nat → List C → Option C} (hcx : CxOK (cxP gl M pu)) (h60 : ∀ a b : ID,pu 60 [.agg (iD a),.agg (iD b)] = some (.val (.bool (decide (a = b))))) (h27 : ∀ l m : List ID,l.length ≤ 1000000 → m.length ≤ 1000000 → pu 27 [sl iD .no l,sl iD .no m] = some (.val (.bool (decide (l = m))))) (a b : Psg) (ha : a.2.2.2.2.length ≤ 1000000) (hb : b.2.2.2.2.length ≤ 1000000) : FC Tryd.prog gl 36 [.agg (pC a),.agg (pC b)] [] (.val (.bool (decide (a = b)))) [] := by
 replace hcx := hcx.reN (M := 38)
 refine FC.ofA (cx := cxP gl 38 pu) (rs := [.tmp 4]) rfl Tryd.func36 rfl rfl rfl (by simp only [List.length_cons,List.length_nil]; decide) (by simp only [go_sem]) ?_
 simp only [ini,go_sem]
 have c1 := True.intro
 have c2 := True.intro
 have c3 := True.intro
 have c4 := True.intro
 have hy := True.intro
 have e27 := h27 _ _ ha hb
 refine Tr.w hcx [] _ [none,none] rfl rfl rfl ?_ X_fc36
 refine Tr.k [2,3] ?_
 by_cases c1 : a.1 = b.1
 ·
  by_cases c2 : a.2.1 = b.2.1
  ·
   by_cases c3 : a.2.2.1 = b.2.2.1
   ·
    by_cases c4 : a.2.2.2.1 = b.2.2.2.1
    ·
     skip
     refine Tr.w hcx [1000037] [some 5,some 6,some 7,some 8,some 9,some 10,some 11,some 12,some 13,some 14,some 15,some 16,some 17,some 18,some 19,some 20,some 21,some 22,some 23,some 24,some 25,some 26,some 27,some 28,some 29,some 30,some 31,some 32,some 33,some 34,some 35,some 36,some 37,some 4] [] rfl rfl rfl ?_ X_fc36
     refine Tr.k [4] ?_
     exact Tr.ret F_fc36
    skip
    refine Tr.w hcx [1000037] [some 5,some 6,some 7,some 8,some 9,some 10,some 11,some 12,some 13,some 14,some 15,some 16,some 17,some 18,some 19,some 20,some 21,some 22,some 23,some 24,some 25,some 26,some 27,some 28,some 29,some 30,some 31,some 32,some 33,some 34,some 35,some 36,some 37,some 4] [] rfl rfl rfl ?_ X_fc36
    refine Tr.k [4] ?_
    exact Tr.ret F_fc36
   have c4 := True.intro
   refine Tr.w hcx [1000037] [some 5,some 6,some 7,some 8,some 9,some 10,some 11,some 12,some 13,some 14,some 15,some 16,some 17,some 18,some 19,some 20,some 21,some 22,some 23,some 24,some 25,some 26,some 27,some 28,some 29,some 30,some 31,some 32,some 33,some 34,some 35,some 36,some 37,some 4] [] rfl rfl rfl ?_ X_fc36
   refine Tr.k [4] ?_
   exact Tr.ret F_fc36
  have c3 := True.intro
  have c4 := True.intro
  refine Tr.w hcx [1000037] [some 5,some 6,some 7,some 8,some 9,some 10,some 11,some 12,some 13,some 14,some 15,some 16,some 17,some 18,some 19,some 20,some 21,some 22,some 23,some 24,some 25,some 26,some 27,some 28,some 29,some 30,some 31,some 32,some 33,some 34,some 35,some 36,some 37,some 4] [] rfl rfl rfl ?_ X_fc36
  refine Tr.k [4] ?_
  exact Tr.ret F_fc36
 have c2 := True.intro
 have c3 := True.intro
 have c4 := True.intro
 refine Tr.w hcx [1000037] [some 5,some 6,some 7,some 8,some 9,some 10,some 11,some 12,some 13,some 14,some 15,some 16,some 17,some 18,some 19,some 20,some 21,some 22,some 23,some 24,some 25,some 26,some 27,some 28,some 29,some 30,some 31,some 32,some 33,some 34,some 35,some 36,some 37,some 4] [] rfl rfl rfl ?_ X_fc36
 refine Tr.k [4] ?_
 exact Tr.ret F_fc36
theorem X_fc14 {p : Prop} (e : p := by intro KZ hZ; simp -implicitDefEqProofs (disch := first | omega | (simp only [go_sem,lA,lD,lT,hw1,hVl] <;> omega) | decide) only [go_sem,↓reduceIte,Nat.reduceEqDiff,reduceCtorEq,Nat.reduceLT,Nat.reduceBEq,Nat.reduceAdd,hVV,hy]; with_reducible exact hZ) : p := e
theorem F_fc14 {p : Prop} (e : p := by simp -implicitDefEqProofs (disch := first | omega | (simp only [go_sem,lA,lD,lT,hw1,hVl] <;> omega) | decide) only [go_sem,↓reduceIte,Nat.reduceEqDiff,reduceCtorEq]; all_goals (rfl)) : p := e
theorem fc14 {gl : Nat → C} {M : Nat} {pu : Nat → List C → Option C} (hcx : CxOK (cxP gl M pu)) (w : Wrk) (hw : WS w) : FC Tryd.prog gl 14 [.agg [sl vC .no w]] [] (sl pC (.own 7) (alW w)) [] := by
 replace hcx := hcx.reN (M := 37)
 refine FC.ofA (cx := cxP gl 37 pu) (rs := [.tmp 2]) rfl Tryd.func14 rfl rfl rfl (by simp only [List.length_cons,List.length_nil]; decide) (by simp only [go_sem]) ?_
 simp only [ini,go_sem]
 have hy := True.intro
 have hw1 := hw.1.1
 have hal := alW_len w
 have hw2 := hw.2.1
 have hVV := True.intro
 have hVl := True.intro
 refine Tr.w hcx [] _ [none] rfl rfl rfl ?_ X_fc14
 refine Tr.w hcx [] _ [] rfl rfl rfl ?_ X_fc14
 refine Tr.seqK fun K1 hK1 => ?_
 refine Tr.w hcx [] _ [] rfl rfl rfl ?_ X_fc14
 refine Tr.k [1,3,4] ?_
 refine Tr.blk ?_
 refine Tr.loopI (α := Nat) (fun a => [(1,?v1_1),(3,sl pC (.own 7) (pV w a)),(4,.val (nI a))]) (fun a => [some [sl vC .no w]]) (fun a => a ≤ w.length) (fun a => w.length - a) (0) (Nat.zero_le _) ?le_1 ?hh_1 ?bd_1
 case hh_1 => exact rfl
 case le_1 => exact LT
 rintro v hv
 have hp := pV_le w v
 refine Tr.seqK fun K2 hK2 => ?_
 refine Tr.w hcx [] _ [] rfl rfl rfl ?_ X_fc14
 refine Tr.cD rfl (fun hc10 => ?_) (fun hc10 => ?_)
 ·
  obtain ⟨V,hV⟩ : ∃ V,gt w v = V := ⟨_,rfl⟩
  have hVV := hV
  have hVl := hw.1.2.1 v hc10
  have hAl := hw.1.2.2 v
  rw [hV] at hVl hAl
  refine Tr.skip ?_
  refine hK2 _ ?_
  refine Tr.seqK fun K3 hK3 => ?_
  refine Tr.blk ?_
  refine Tr.w hcx [] _ [] rfl rfl rfl ?_ X_fc14
  refine Tr.k [1,3,4,5] ?_
  refine Tr.blk ?_
  refine Tr.loopI (α := Nat) (fun a => [(1,?v1_2),(3,sl pC (.own 7) (pV w v ++ pA V a)),(4,?v4_2),(5,.val (nI a))]) (fun a => [some [sl vC .no w]]) (fun a => a ≤ V.length) (fun a => V.length - a) (0) (Nat.zero_le _) ?le_2 ?hh_2 ?bd_2
  case hh_2 => exact rfl
  case le_2 => (simp only [Le_nil,Le_cons,↓A_cons,↓reduceIte,Nat.reduceEqDiff,CLe_refl,CLe_top,CLe_full,CLe_nil,CLe_own,and_true,true_and]; all_goals (repeat' first | exact CLe.refl _ | exact True.intro | (refine CLe_sln ?_; first | rfl | (simp only [List.take_zero]; done)) | exact CLe_nI (by omega) | exact CLe_int (by omega) | exact CLe_inI (by omega) | exact CLe_nIi (by omega) | with_reducible apply And.intro)); all_goals (first | exact CLe.refl _ | (rw [show pA V 0 = [] from rfl,List.append_nil]; exact CLe.refl _))
  rintro k hk
  have hp2 := pVA_le w v (k + 1) hc10
  rw [hV] at hp2
  refine Tr.seqK fun K4 hK4 => ?_
  refine Tr.w hcx [] _ [] rfl rfl rfl ?_ X_fc14
  refine Tr.cD rfl (fun hc21 => ?_) (fun hc21 => ?_)
  ·
   have hAk := hAl k hc10 hc21
   rw [pA_S V k hc21,List.length_append] at hp2
   refine Tr.skip ?_
   refine hK4 _ ?_
   refine Tr.seqK fun K5 hK5 => ?_
   refine Tr.blk ?_
   refine Tr.v hcx [24,1000035] _ [] rfl rfl rfl ?_ X_fc14
   refine hK5 _ ?_
   refine Tr.k [1,3,4,5] ?_
   refine Tr.v hcx [1000023] _ [] rfl rfl rfl ?_ X_fc14
   refine ⟨k + 1,⟨(by omega),O1⟩,?_,rfl⟩
   (simp only [Le_nil,Le_cons,↓A_cons,↓reduceIte,Nat.reduceEqDiff,CLe_refl,CLe_top,CLe_full,CLe_nil,CLe_own,and_true,true_and]; all_goals (repeat' first | exact CLe.refl _ | exact True.intro | (refine CLe_sln ?_; first | rfl | (simp only [List.take_zero]; done)) | exact CLe_nI (by omega) | exact CLe_int (by omega) | exact CLe_inI (by omega) | exact CLe_nIi (by omega) | with_reducible apply And.intro))
   all_goals (first | (rw [pA_S V k hc21,List.append_assoc]; exact CLe.refl _) | exact CLe.refl _)
  obtain rfl : k = V.length := by omega
  refine Tr.exit ?_
  refine hK3 _ ?_
  refine Tr.v hcx [1000012] _ [] rfl rfl rfl ?_ X_fc14
  refine ⟨v + 1,⟨(by omega),O1⟩,?_,rfl⟩
  (simp only [Le_nil,Le_cons,↓A_cons,↓reduceIte,Nat.reduceEqDiff,CLe_refl,CLe_top,CLe_full,CLe_nil,CLe_own,and_true,true_and]; all_goals (repeat' first | exact CLe.refl _ | exact True.intro | (refine CLe_sln ?_; first | rfl | (simp only [List.take_zero]; done)) | exact CLe_nI (by omega) | exact CLe_int (by omega) | exact CLe_inI (by omega) | exact CLe_nIi (by omega) | with_reducible apply And.intro))
  all_goals (first | (rw [pV_S w v hc10,hV]; exact CLe.refl _) | exact CLe.refl _)
 obtain rfl : v = w.length := by omega
 rw [← alW_eq]
 refine Tr.exit ?_
 refine hK1 _ ?_
 refine Tr.w hcx [1000036] _ [] rfl rfl rfl ?_ X_fc14
 exact Tr.ret F_fc14
end Go.Sx
