/-
   And what follows.
-/
import Derived.Test.YtcpdlhgkdogdjaaDoorPaq
set_option linter.unusedSimpArgs false
set_option linter.unusedVariables false
namespace Go.Sx
open Go.RowKit Go.Proofs
set_option maxRecDepth 100000
set_option maxHeartbeats 8000000
noncomputable def cxR (gl : Nat → C) (M : Nat) (pu : Nat → List C → Option C) (hp : Nat → List C → Hp → Option (C × Hp)) : Cx := ⟨Tryd.prog,M,gl,pu,hp,fun _ => false,kmW,true⟩
section
variable {gl : Nat → C} {M : Nat} {pu : Nat → List C → Option C} {hp : Nat → List C → Hp → Option (C × Hp)}
theorem cxR_P : (cxR gl M pu hp).P = Tryd.prog := rfl
theorem cxR_N : (cxR gl M pu hp).N = M := rfl
theorem cxR_pu : (cxR gl M pu hp).pu = pu := rfl
theorem cxR_hp : (cxR gl M pu hp).hp = hp := rfl
theorem cxR_gr (d : Option Nat) : isG (cxR gl M pu hp) d = false := by cases d <;> rfl
end
theorem hMOR {gl : Nat → C} {M : Nat} {pu : Nat → List C → Option C} {hp : Nat → List C → Hp → Option (C × Hp)} : (cxR gl M pu hp).P.follows .mixedOrders = true := hMO (gl := gl) (M := M) (pu := pu)
attribute [go_sem] cxR_P cxR_N cxR_pu cxR_hp cxR_gr
theorem rdW1 (t : List UInt8) (ps : List Psg) : rdW [[(t,ps)]] = rdA 0 0 ps := by
  show ([0] : List Nat).flatMap (fun v => ([0] : List Nat).flatMap fun a => rdA v a ps) = _
  simp
def OkOne (ps : List Psg) : Prop := ps.length ≤ 1000 ∧ ∀ i,i < ps.length → (gt ps i).2.2.2.1.length ≤ 1000 ∧ (gt ps i).2.2.2.2.length ≤ 1000 ∧ IdOk (gt ps i).1
theorem OkOne.rd {t : List UInt8} {ps : List Psg} (h : OkOne ps) : (rdW [[(t,ps)]]).length = ps.length ∧ ∀ i,i < ps.length → (gt (rdW [[(t,ps)]]) i).2 = gt ps i := by
  rw [rdW1,rdA_len]
  exact ⟨rfl,fun i hi => by rw [rdA_gt 0 0 ps i hi]⟩
theorem OkOne.wb {t : List UInt8} {ps : List Psg} (h : OkOne ps) : WB [[(t,ps)]] := by
  refine ⟨by show 1 < _; decide,fun v hv => ?_,fun v a hv ha => ?_⟩
  · obtain rfl : v = 0 := by simpa using hv
    show 1 < _; decide
  · obtain rfl : v = 0 := by simpa using hv
    obtain rfl : a = 0 := by have : a < 1 := ha; omega
    show ps.length < _
    have := h.1; omega
theorem OkOne.ws {t : List UInt8} {ps : List Psg} (h : OkOne ps) : WS [[(t,ps)]] := by
  have hr := h.rd (t := t)
  refine ⟨h.wb,by rw [hr.1]; have := h.1; omega,fun i hi => ?_⟩
  rw [hr.1] at hi
  rw [hr.2 i hi]; have := (h.2 i hi).2.1; omega
theorem OkOne.tx {t : List UInt8} {ps : List Psg} (h : OkOne ps) : ∀ i,i < (rdW [[(t,ps)]]).length → (gt (rdW [[(t,ps)]]) i).2.2.2.2.1.length ≤ 1000000 := fun i hi => by
  have hr := h.rd (t := t)
  rw [hr.1] at hi
  rw [hr.2 i hi]; have := (h.2 i hi).1; omega
theorem OkOne.id {t : List UInt8} {ps : List Psg} (h : OkOne ps) : ∀ i,i < (rdW [[(t,ps)]]).length → IdOk (gt (rdW [[(t,ps)]]) i).2.1 := fun i hi => by
  have hr := h.rd (t := t)
  rw [hr.1] at hi
  rw [hr.2 i hi]; exact (h.2 i hi).2.2
theorem OkOne.tt {t : List UInt8} {ps : List Psg} (h : t.length ≤ 1000) : ∀ v a,v < [[(t,ps)]].length → a < (gt [[(t,ps)]] v).length → (gt (gt [[(t,ps)]] v) a).1.length ≤ 1000000 := fun v a hv ha => by
  obtain rfl : v = 0 := by simpa using hv
  obtain rfl : a = 0 := by have : a < 1 := ha; omega
  show t.length ≤ _; omega
def lessP : List Psg := [((0,0,0),0,0,tKing,[]),((0,1,0),1,0,tLyre,[]),((0,2,0),2,0,tRome,[])]
def firstP : List Psg := [((0,1,0),1,0,tLyre,[]),((0,2,0),2,0,tRome,[])]
def behP : List Psg := [((0,0,0),2,0,tKing,[(0,1,0)]),((0,1,0),1,0,tLyre,[]),((0,2,0),2,0,tRome,[])]
def twP : List Psg := [((0,0,0),0,0,tKing,[(0,1,0)]),((0,1,0),1,0,tLyre,[]),((0,0,0),2,0,tRome,[])]
def okOne (ps : List Psg) : Bool := decide (ps.length ≤ 1000) && ps.all fun p => decide (p.2.2.2.1.length ≤ 1000) && decide (p.2.2.2.2.length ≤ 1000) && okI p.1
theorem OkOne.of {ps : List Psg} (h : okOne ps = true) : OkOne ps := by
  unfold okOne at h
  rw [Bool.and_eq_true,decide_eq_true_iff] at h
  refine ⟨h.1,fun i hi => ?_⟩
  have := gt_all ps _ h.2 i hi
  simp only [Bool.and_eq_true,decide_eq_true_iff] at this
  refine ⟨this.1.1,this.1.2,?_⟩
  have h3 := this.2
  unfold okI at h3
  rw [decide_eq_true_iff] at h3
  refine ⟨⟨?_,?_⟩,⟨?_,?_⟩,?_,?_⟩ <;> omega
theorem ok_ex : OkOne exPs := .of (by decide +kernel)
theorem ok_le : OkOne lessP := .of (by decide +kernel)
theorem ok_fi : OkOne firstP := .of (by decide +kernel)
theorem ok_be : OkOne behP := .of (by decide +kernel)
theorem ok_tw : OkOne twP := .of (by decide +kernel)
theorem v_ex : valW [[(tOdes,exPs)]] = 0 := by decide +kernel
theorem v_le : valW [[(tOdes,lessP)]] = 1 := by decide +kernel
theorem v_fi : valW [[(tOdes,firstP)]] = 8 := by decide +kernel
theorem v_be : valW [[(tOdes,behP)]] = 8 := by decide +kernel
theorem v_tw : valW [[(tOdes,twP)]] = 7 := by decide +kernel
theorem f_ex : fnd [[(tOdes,exPs)]] (0,1,0) = ((0,0,1),true) := by decide +kernel
theorem o_ex : (ordS (insL [(0,2,0),(5,5,5),(0,0,0)]) (alW [[(tOdes,exPs)]])).2 = [(0,0,0),(0,2,0)] := by decide +kernel
theorem b_ex : (ordS (insL [(0,0,0),(0,2,0)]) (alW [[(tOdes,exPs)]])).2 = [(0,0,0),(0,2,0)] := by decide +kernel
theorem b_ex2 : (ordS (insL [(0,2,0),(0,2,0)]) (alW [[(tOdes,exPs)]])).2 = [(0,2,0)] := by decide +kernel
theorem bsA_iD3n (y : Nat) (a b c d e f g h i : Nat) : bsA (some ⟨.struct #[Field.mk "By" 3 0 false "" "" 0, Field.mk "Seq" 3 1 false "" "" 8, Field.mk "K" 3 2 false "" "" 16], 3, y, [nI 0, nI 0, nI 0]⟩) 3 [(0, .agg [.val (nI a), .val (nI b), .val (nI c)]), (1, .agg [.val (nI d), .val (nI e), .val (nI f)]), (2, .agg [.val (nI g), .val (nI h), .val (nI i)])] = some (vp (sl iD .full [((a : Int), (b : Int), (c : Int)), ((d : Int), (e : Int), (f : Int)), ((g : Int), (h : Int), (i : Int))])) := rfl
theorem bsA_iD2n (y : Nat) (a b c d e f : Nat) : bsA (some ⟨.struct #[Field.mk "By" 3 0 false "" "" 0, Field.mk "Seq" 3 1 false "" "" 8, Field.mk "K" 3 2 false "" "" 16], 3, y, [nI 0, nI 0, nI 0]⟩) 2 [(0, .agg [.val (nI a), .val (nI b), .val (nI c)]), (1, .agg [.val (nI d), .val (nI e), .val (nI f)])] = some (vp (sl iD .full [((a : Int), (b : Int), (c : Int)), ((d : Int), (e : Int), (f : Int))])) := rfl
attribute [go_sem high] bsA_iD3n bsA_iD2n
theorem eqC_53 (d : Nat) (x1 x2 x3 y1 y2 y3 : Nat) : eqC Tryd.prog (d + 2) 53 (.agg [.val (nI x1),.val (nI x2),.val (nI x3)]) (.agg [.val (nI y1),.val (nI y2),.val (nI y3)]) = some (decide (x1 = y1 ∧ x2 = y2 ∧ x3 = y3)) := by
  have hn : ∀ a b : Nat,eqC Tryd.prog (d + 1) 3 (.val (nI a)) (.val (nI b)) = some (decide (a = b)) := fun a b => by
    have := eqC_int Tryd.prog d td3 a b
    rw [nI,nI,this]; congr 1; rw [decide_eq_decide]; omega
  unfold eqC
  rw [td53]
  simp only []
  rw [td3]
  simp only [C.agg?]
  show (match eqC Tryd.prog (d + 1) 3 (.val (nI x1)) (.val (nI y1)) with | some true => _ | r => r) = _
  rw [hn]
  by_cases h1 : x1 = y1
  · rw [decide_eq_true h1]
    show (match eqC Tryd.prog (d + 1) 3 (.val (nI x2)) (.val (nI y2)) with | some true => _ | r => r) = _
    rw [hn]
    by_cases h2 : x2 = y2
    · rw [decide_eq_true h2]
      show (match eqC Tryd.prog (d + 1) 3 (.val (nI x3)) (.val (nI y3)) with | some true => _ | r => r) = _
      rw [hn]
      by_cases h3 : x3 = y3
      · rw [decide_eq_true h3]; simp [eqEs,h1,h2,h3]
      · rw [decide_eq_false h3]; simp [h3]
    · rw [decide_eq_false h2]; simp [h2]
  · rw [decide_eq_false h1]; simp [h1]
theorem eq53 (op : BinOp) (x1 x2 x3 y1 y2 y3 : Nat) : binPlan Tryd.prog op 53 (.agg [.val (nI x1),.val (nI x2),.val (nI x3)]) (.agg [.val (nI y1),.val (nI y2),.val (nI y3)]) = eqR op (decide (x1 = y1 ∧ x2 = y2 ∧ x3 = y3)) := eqPlan_some Tryd.prog op (by kernel_rfl) (eqC_53 7 x1 x2 x3 y1 y2 y3)
attribute [go_sem] eq53
theorem wrcX6 : wrc (cl pC exPs) 6 [.val (.slice none 0 0)] = some ((cl pC exPs).set 6 (.val (.slice none 0 0)),.val undef) := rfl
theorem wrcX3 : wrc (cl pC exPs) 3 [.val (nI 2)] = some (cl pC behP,.val undef) := rfl
theorem wrcX14 : wrc (cl pC exPs) (2 * 7) [.val (nI 0),.val (nI 0),.val (nI 0)] = some (cl pC twP,.val undef) := rfl
theorem less_e : ((cl pC exPs).set 6 (.val (.slice none 0 0))).set 6 (sl iD .no []) = cl pC lessP := rfl
attribute [go_sem high] wrcX6 wrcX3 wrcX14
theorem fz_p (l : List Psg) (h : 3 = l.length) : fzGv (cl pC l) 3 (7,37) = sl pC .no l := fzGv_cl pC 37 l 3 h
theorem fz_a (t : List UInt8) (l : List Psg) : fzGv [.val (str t),sl pC .no l] 1 (2,48) = sl aC .no [(t,l)] := rfl
theorem fz_v (l : List Art) : fzGv [sl aC .no l] 1 (1,46) = sl vC .no [l] := rfl
theorem X_fc17 {p : Prop} (e : p := by intro KZ hZ; simp -implicitDefEqProofs (disch := first | omega | (simp only [go_sem,lA,lD,lT] <;> omega) | decide) only [go_sem,↓reduceIte,Nat.reduceEqDiff,reduceCtorEq,Nat.reduceLT,Nat.reduceBEq,Nat.reduceAdd,n64,e64,e32,e28,e25,e27,e30a,e30b,e12a,e12b,e12c,e12d,e12e,hy]; with_reducible exact hZ) : p := e
theorem Y_fc17 {p : Prop} (e : p := by intro KZ hZ; simp -implicitDefEqProofs (disch := first | omega | (simp only [go_sem,lA,lD,lT] <;> omega) | decide) only [go_sem,↓reduceIte,Nat.reduceEqDiff,reduceCtorEq,Nat.reduceLT,Nat.reduceBEq,Nat.reduceAdd,n64,e64,e32,e28,e25,e27,e30a,e30b,e12a,e12b,e12c,e12d,e12e,hy]; with_reducible refine And.intro ?_ hZ; first | exact rfl | decide) : p := e
theorem F_fc17 {p : Prop} (e : p := by simp -implicitDefEqProofs (disch := first | omega | (simp only [go_sem,lA,lD,lT] <;> omega) | decide) only [go_sem,↓reduceIte,Nat.reduceEqDiff,reduceCtorEq]; all_goals (rfl)) : p := e
theorem fc17 {gl : Nat → C} {M : Nat} {pu : Nat → List C → Option C} {hp : Nat → List C → Hp → Option (C × Hp)} (hcx : CxOK (cxR gl M pu hp)) (n64 : ∀ xs : List C,pu 64 xs = none) (hq64 : ∀ pre : Hp,OkH pre → hp 64 [] pre = some (.agg [.gv (pre.length + 3) 1 (1,46)],pre ++ [some [.gv (pre.length + 3) 1 (1,46)],some (cl pC exPs),some [.val (str tOdes),.gv (pre.length + 1) 3 (7,37)],some [.gv (pre.length + 2) 1 (2,48)]])) (h27 : ∀ l m : List ID,l.length ≤ 1000000 → m.length ≤ 1000000 → pu 27 [sl iD .no l,sl iD .no m] = some (.val (.bool (decide (l = m))))) (h28 : ∀ (w : Wrk) (l : List ID),WS w → (∀ x ∈ l,IdOk x) → l.length ≤ 1000000 → (∀ i,i < (rdW w).length → IdOk (gt (rdW w) i).2.1) → pu 28 [.agg [sl vC .no w],sl iD .no l] = some (sl iD .no (ordS (insL l) (alW w)).2)) (h30 : ∀ (w : Wrk) (a b : ID),WS w → IdOk a → IdOk b → (∀ i,i < (rdW w).length → IdOk (gt (rdW w) i).2.1) → pu 30 [.agg [sl vC .no w],.agg (iD a),.agg (iD b)] = some (.val (.bool (decide ((ordS (insL [a,b]) (alW w)).2.length = 2 ∧ gt (ordS (insL [a,b]) (alW w)).2 0 = a))))) (h12 : ∀ w : Wrk,WS w → (∀ i,i < (rdW w).length → (gt (rdW w) i).2.2.2.2.1.length ≤ 1000000) → (∀ v a,v < w.length → a < (gt w v).length → (gt (gt w v) a).1.length ≤ 1000000) → (∀ i,i < (rdW w).length → IdOk (gt (rdW w) i).2.1) → pu 12 [.agg [sl vC .no w]] = some (.val (nI (valW w)))) (h32 : ∀ (w : Wrk) (id : ID),WB w → pu 32 [.agg [sl vC .no w],.agg (iD id)] = some (.tup [.agg [.val (nI (fnd w id).1.1),.val (nI (fnd w id).1.2.1),.val (nI (fnd w id).1.2.2)],.val (.bool (fnd w id).2)])) (h25 : ∀ w : Wrk,WS w → nA w w.length ≤ 1000000 → pu 25 [.agg [sl vC .no w]] = some (.agg [.val (nI w.length),.val (nI (nA w w.length)),.val (nI (alW w).length)])) : FC Tryd.prog gl 17 [] [] (.val (.bool true)) [] := by
 replace hcx := hcx.reN (M := 140)
 refine FC.ofA (cx := cxR gl 140 pu hp) (rs := [.tmp 0]) rfl Tryd.func17 rfl rfl rfl (by simp only [List.length_cons,List.length_nil]; decide) (by simp only [go_sem]) ?_
 simp only [ini,go_sem]
 have hy := True.intro
 have hMO := @hMOR
 have e64 := hq64 [none] (OkH.cons rfl OkH.nil)
 simp only [List.length_cons,List.length_nil,List.cons_append,List.nil_append,Nat.zero_add,Nat.reduceAdd] at e64
 have e32 : pu 32 [.agg [sl vC .no [[(tOdes,exPs)]]],.agg [.val (nI 0),.val (nI 1),.val (nI 0)]] = some (.tup [.agg [.val (nI 0),.val (nI 0),.val (nI 1)],.val (.bool true)]) := by have h := h32 [[(tOdes,exPs)]] (0,1,0) (OkOne.wb ok_ex); rw [f_ex] at h; exact h
 have e28 : pu 28 [.agg [sl vC .no [[(tOdes,exPs)]]],sl iD .no [(((0 : Nat) : Int),((2 : Nat) : Int),((0 : Nat) : Int)),(((5 : Nat) : Int),((5 : Nat) : Int),((5 : Nat) : Int)),(((0 : Nat) : Int),((0 : Nat) : Int),((0 : Nat) : Int))]] = some (sl iD .no [(((0 : Nat) : Int),((0 : Nat) : Int),((0 : Nat) : Int)),(((0 : Nat) : Int),((2 : Nat) : Int),((0 : Nat) : Int))]) := by have h := h28 [[(tOdes,exPs)]] [(0,2,0),(5,5,5),(0,0,0)] (OkOne.ws ok_ex) (by intro x hx; simp only [List.mem_cons,List.not_mem_nil,or_false] at hx; rcases hx with rfl | rfl | rfl <;> exact ⟨⟨by decide,by decide⟩,⟨by decide,by decide⟩,by decide,by decide⟩) (by decide) (OkOne.id ok_ex); rw [o_ex] at h; exact h
 have e25 : pu 25 [.agg [sl vC .no [[(tOdes,exPs)]]]] = some (.agg [.val (nI 1),.val (nI 1),.val (nI 3)]) := h25 [[(tOdes,exPs)]] (OkOne.ws ok_ex) (by decide)
 have e27 : pu 27 [sl iD .no [(((0 : Nat) : Int),((0 : Nat) : Int),((0 : Nat) : Int)),(((0 : Nat) : Int),((2 : Nat) : Int),((0 : Nat) : Int))],sl iD .no [(((0 : Nat) : Int),((0 : Nat) : Int),((0 : Nat) : Int)),(((0 : Nat) : Int),((2 : Nat) : Int),((0 : Nat) : Int))]] = some (.val (.bool true)) := (h27 [(((0 : Nat) : Int),((0 : Nat) : Int),((0 : Nat) : Int)),(((0 : Nat) : Int),((2 : Nat) : Int),((0 : Nat) : Int))] _ (by decide) (by decide)).trans (by rw [decide_eq_true rfl])
 have e30a : pu 30 [.agg [sl vC .no [[(tOdes,exPs)]]],.agg [.val (nI 0),.val (nI 0),.val (nI 0)],.agg [.val (nI 0),.val (nI 2),.val (nI 0)]] = some (.val (.bool true)) := by have h := h30 [[(tOdes,exPs)]] (0,0,0) (0,2,0) (OkOne.ws ok_ex) ⟨⟨by decide,by decide⟩,⟨by decide,by decide⟩,by decide,by decide⟩ ⟨⟨by decide,by decide⟩,⟨by decide,by decide⟩,by decide,by decide⟩ (OkOne.id ok_ex); rw [b_ex] at h; exact h
 have e30b : pu 30 [.agg [sl vC .no [[(tOdes,exPs)]]],.agg [.val (nI 0),.val (nI 2),.val (nI 0)],.agg [.val (nI 0),.val (nI 2),.val (nI 0)]] = some (.val (.bool false)) := by have h := h30 [[(tOdes,exPs)]] (0,2,0) (0,2,0) (OkOne.ws ok_ex) ⟨⟨by decide,by decide⟩,⟨by decide,by decide⟩,by decide,by decide⟩ ⟨⟨by decide,by decide⟩,⟨by decide,by decide⟩,by decide,by decide⟩ (OkOne.id ok_ex); rw [b_ex2] at h; exact h
 have e12a : pu 12 [.agg [sl vC .no [[(tOdes,exPs)]]]] = some (.val (nI 0)) := by rw [h12 [[(tOdes,exPs)]] (OkOne.ws ok_ex) (OkOne.tx ok_ex) (OkOne.tt (by decide)) (OkOne.id ok_ex),v_ex]
 have e12b : pu 12 [.agg [sl vC .no [[(tOdes,lessP)]]]] = some (.val (nI 1)) := by rw [h12 [[(tOdes,lessP)]] (OkOne.ws ok_le) (OkOne.tx ok_le) (OkOne.tt (by decide)) (OkOne.id ok_le),v_le]
 have e12c : pu 12 [.agg [sl vC .no [[(tOdes,firstP)]]]] = some (.val (nI 8)) := by rw [h12 [[(tOdes,firstP)]] (OkOne.ws ok_fi) (OkOne.tx ok_fi) (OkOne.tt (by decide)) (OkOne.id ok_fi),v_fi]
 have e12d : pu 12 [.agg [sl vC .no [[(tOdes,behP)]]]] = some (.val (nI 8)) := by rw [h12 [[(tOdes,behP)]] (OkOne.ws ok_be) (OkOne.tx ok_be) (OkOne.tt (by decide)) (OkOne.id ok_be),v_be]
 have e12e : pu 12 [.agg [sl vC .no [[(tOdes,twP)]]]] = some (.val (nI 7)) := by rw [h12 [[(tOdes,twP)]] (OkOne.ws ok_tw) (OkOne.tx ok_tw) (OkOne.tt (by decide)) (OkOne.id ok_tw),v_tw]
 refine Tr.w hcx [] _ [] rfl rfl rfl ?_ X_fc17
 refine Tr.w hcx [] _ [none] rfl rfl rfl ?_ X_fc17
 refine Tr.f1 hcx 2 (cl pC exPs) ?_
 simp only [fz_p exPs rfl]
 refine Tr.f1 hcx 3 [.val (str tOdes),sl pC .no exPs] ?_
 simp only [fz_a]
 refine Tr.f1 hcx 4 [sl aC .no [(tOdes,exPs)]] ?_
 simp only [fz_v]
 refine Tr.k [1] ?_
 refine Tr.m1 hcx [0] ?_
 refine Tr.f1 hcx 0 [sl vC .no [[(tOdes,exPs)]]] ?_
 refine Tr.m1 hcx [] ?_
 refine Tr.w hcx [1000015] _ [none] rfl rfl rfl ?_ X_fc17
 refine Tr.w hcx [1000021] _ [] rfl rfl rfl ?_ X_fc17
 refine Tr.k [1,2,3,4] ?_
 refine Tr.seqK fun K1 hK1 => ?_
 refine Tr.w hcx [] [some 22,some 23,some 24,some 25,some 26,some 27,some 28,some 29,some 30,some 31,some 32,some 33,some 34,some 35,some 36,some 37,some 38,some 39,some 40,some 41,some 42,some 43,some 44,some 45,some 46,some 47,some 48,some 49,some 50,some 51,some 52,some 53,some 54,some 55,some 56,some 57] [] rfl rfl rfl ?_ X_fc17
 refine Tr.k [1,57] ?_
 refine Tr.cF rfl ?_
 refine Tr.skip ?_
 refine hK1 _ ?_
 refine Tr.k [1] ?_
 refine Tr.m1 hcx [] ?_
 refine Tr.w hcx [] _ [none] rfl rfl rfl ?_ X_fc17
 refine Tr.w hcx [] _ [] rfl rfl rfl ?_ X_fc17
 refine Tr.bxc 2 6 (sl iD .no []) ((cl pC exPs).set 6 (.val (.slice none 0 0))) rfl rfl (CLe_sln rfl) rfl ?_
 simp only [less_e]
 simp only [List.set_cons_succ,List.set_cons_zero]
 refine Tr.f1 hcx 2 (cl pC lessP) ?_
 simp only [fz_p lessP rfl]
 refine Tr.f1 hcx 3 [.val (str tOdes),sl pC .no lessP] ?_
 simp only [fz_a]
 refine Tr.f1 hcx 4 [sl aC .no [(tOdes,lessP)]] ?_
 simp only [fz_v]
 refine Tr.k [1,5] ?_
 refine Tr.m1 hcx [0] ?_
 refine Tr.f1 hcx 0 [sl vC .no [[(tOdes,lessP)]]] ?_
 refine Tr.m1 hcx [] ?_
 refine Tr.w hcx [] _ [none] rfl rfl rfl ?_ X_fc17
 refine Tr.k [1,5,6] ?_
 refine Tr.f1 hcx 2 (cl pC exPs) ?_
 simp only [fz_p exPs rfl]
 refine Tr.wD hcx hMO [] _ [] rfl rfl rfl rfl ?_ Y_fc17
 simp only [show exPs.drop 1 = firstP from rfl]
 refine Tr.f1 hcx 3 [.val (str tOdes),sl pC .no firstP] ?_
 simp only [fz_a]
 refine Tr.f1 hcx 4 [sl aC .no [(tOdes,firstP)]] ?_
 simp only [fz_v]
 refine Tr.k [1,5,6] ?_
 refine Tr.m1 hcx [0] ?_
 refine Tr.f1 hcx 0 [sl vC .no [[(tOdes,firstP)]]] ?_
 refine Tr.m1 hcx [] ?_
 refine Tr.w hcx [] _ [none] rfl rfl rfl ?_ X_fc17
 refine Tr.k [1,5,6,7] ?_
 refine Tr.w hcx [] _ [] rfl rfl rfl ?_ X_fc17
 refine Tr.f1 hcx 2 (cl pC behP) ?_
 simp only [fz_p behP rfl]
 refine Tr.f1 hcx 3 [.val (str tOdes),sl pC .no behP] ?_
 simp only [fz_a]
 refine Tr.f1 hcx 4 [sl aC .no [(tOdes,behP)]] ?_
 simp only [fz_v]
 refine Tr.k [1,5,6,7] ?_
 refine Tr.m1 hcx [0] ?_
 refine Tr.f1 hcx 0 [sl vC .no [[(tOdes,behP)]]] ?_
 refine Tr.m1 hcx [] ?_
 refine Tr.w hcx [] _ [none] rfl rfl rfl ?_ X_fc17
 refine Tr.k [1,5,6,7,8] ?_
 refine Tr.w hcx [] _ [] rfl rfl rfl ?_ X_fc17
 refine Tr.k [1,5,6,7,8] ?_
 refine Tr.f1 hcx 2 (cl pC twP) ?_
 simp only [fz_p twP rfl]
 refine Tr.f1 hcx 3 [.val (str tOdes),sl pC .no twP] ?_
 simp only [fz_a]
 refine Tr.f1 hcx 4 [sl aC .no [(tOdes,twP)]] ?_
 simp only [fz_v]
 refine Tr.k [1,5,6,7,8] ?_
 refine Tr.m1 hcx [0] ?_
 refine Tr.f1 hcx 0 [sl vC .no [[(tOdes,twP)]]] ?_
 refine Tr.m1 hcx [] ?_
 refine Tr.w hcx [1000139] [some 109,some 110,some 111,some 112,some 113,some 114,some 115,some 116,some 117,some 118,some 119,some 120,some 121,some 122,some 123,some 124,some 125,some 126,some 127,some 128,some 129,some 130,some 131,some 132,some 133,some 134,some 135,some 136,some 137,some 138,some 139,some 0] [] rfl rfl rfl ?_ X_fc17
 refine Tr.k [0] ?_
 exact Tr.ret F_fc17
end Go.Sx
namespace Go.Sx
open Go.RowKit Go.Proofs
theorem gt_mem' {α : Type} [Inhabited α] (l : List α) (i : Nat) (h : i < l.length) : gt l i ∈ l := by simp [gt,List.getD,List.getElem?_eq_getElem h]
theorem gt_of_mem {α : Type} [Inhabited α] {l : List α} {x : α} (h : x ∈ l) : ∃ i,i < l.length ∧ gt l i = x := by
  obtain ⟨i,hi,rfl⟩ := List.getElem_of_mem h
  exact ⟨i,hi,by simp [gt,List.getD,List.getElem?_eq_getElem hi]⟩
theorem alW_fl (w : Wrk) : alW w = w.flatMap fun V => V.flatMap (·.2) := by
  rw [alW_eq]; unfold pV pA; rw [List.take_length]
  congr 1; funext V; rw [List.take_length]
theorem mem_alW {w : Wrk} {p : Psg} : p ∈ alW w ↔ ∃ V,V ∈ w ∧ ∃ A,A ∈ V ∧ p ∈ A.2 := by
  rw [alW_fl]; simp only [List.mem_flatMap]
def PG (p : Psg) : Prop := p.2.2.2.1.length ≤ 1000000 ∧ p.2.2.2.2.length ≤ 1000000 ∧ IdOk p.1
structure WG (w : Wrk) : Prop where
  n : w.length ≤ 100000
  al : (alW w).length ≤ 100000
  ar : nA w w.length ≤ 1000000
  v : ∀ V,V ∈ w → V.length ≤ 100000 ∧ ∀ A,A ∈ V → A.1.length ≤ 1000000 ∧ A.2.length ≤ 100000 ∧ ∀ p,p ∈ A.2 → PG p
theorem WG.wb {w : Wrk} (h : WG w) : WB w := by
  refine ⟨by have := h.n; omega,fun v hv => ?_,fun v a hv ha => ?_⟩
  · have := (h.v _ (gt_mem' w v hv)).1; omega
  · have := ((h.v _ (gt_mem' w v hv)).2 _ (gt_mem' _ a ha)).2.1; omega
theorem WG.pg {w : Wrk} (h : WG w) {i : Nat} (hi : i < (rdW w).length) : PG (gt (rdW w) i).2 := by
  rw [← alW_gt w i hi]
  obtain ⟨V,hV,A,hA,hp⟩ := mem_alW.1 (gt_mem' (alW w) i (by rw [alW_len]; exact hi))
  exact ((h.v V hV).2 A hA).2.2 _ hp
theorem WG.ws {w : Wrk} (h : WG w) : WS w := ⟨h.wb,by have := h.al; rw [alW_len] at this; exact this,fun i hi => (h.pg hi).2.1⟩
theorem WG.id {w : Wrk} (h : WG w) : ∀ i,i < (rdW w).length → IdOk (gt (rdW w) i).2.1 := fun i hi => (h.pg hi).2.2
theorem ordS_flt : ∀ (l : List Psg) (M : List ID),(l.map (·.1)).Nodup → (ordS M l).2 = (l.map (·.1)).filter fun x => decide (x ∈ M)
  | [],M,_ => rfl
  | p :: l,M,h => by
    rw [List.map_cons,List.nodup_cons] at h
    simp only [ordS,List.map_cons,List.filter_cons]
    split
    · rename_i hp
      rw [if_pos (decide_eq_true hp),ordS_flt l _ h.2]
      refine congrArg (fun z => p.1 :: z) (List.filter_congr fun x hx => ?_)
      have : x ≠ p.1 := fun e => h.1 (e ▸ hx)
      rw [decide_eq_decide]
      exact List.mem_erase_of_ne this
    · rename_i hp
      rw [if_neg (by simpa using hp)]
      exact ordS_flt l M h.2
def ordW' (w : Wrk) (m : List ID) : List ID := (ordS (insL m) (alW w)).2
theorem ordW_flt {w : Wrk} (h : (idsA w).Nodup) (m : List ID) : ordW' w m = (idsA w).filter fun x => decide (x ∈ m) := by
  unfold ordW'
  rw [ordS_flt _ _ h]
  exact List.filter_congr fun x _ => by rw [decide_eq_decide]; exact mem_insL
theorem flt_none {α : Type} {t : List α} {p : α → Bool} (h : ∀ x,x ∈ t → p x = false) : t.filter p = [] := by
  rw [List.filter_eq_nil_iff]; intro x hx; rw [h x hx]; simp
theorem flt1 {t : List ID} {p : ID → Bool} {b : ID} (hn : t.Nodup) (hb : b ∈ t) (hp : p b = true) (ho : ∀ x,x ∈ t → x ≠ b → p x = false) : t.filter p = [b] := by
  induction t with
  | nil => cases hb
  | cons x t ih =>
    rw [List.nodup_cons] at hn
    rw [List.filter_cons]
    by_cases e : x = b
    · subst e
      rw [if_pos hp,flt_none fun y hy => ho y (List.mem_cons_of_mem _ hy) fun e => hn.1 (e ▸ hy)]
    · rw [ho x (List.mem_cons_self ..) e]
      rcases List.mem_cons.1 hb with rfl | hb
      · exact absurd rfl e
      · simpa using ih hn.2 hb fun y hy => ho y (List.mem_cons_of_mem _ hy)
theorem flt2 {a b : ID} : ∀ {t : List ID},t.Nodup → List.Sublist [a,b] t → (t.filter fun x => decide (x ∈ [a,b])) = [a,b]
  | [],_,h => by cases h
  | x :: t,hn,h => by
    rw [List.nodup_cons] at hn
    cases h with
    | cons _ h =>
      have ha : a ∈ t := h.subset (by simp)
      have hb : b ∈ t := h.subset (by simp)
      rw [List.filter_cons,if_neg]
      · exact flt2 hn.2 h
      · simp only [List.mem_cons,List.not_mem_nil,or_false,decide_eq_true_iff]
        rintro (rfl | rfl)
        · exact hn.1 ha
        · exact hn.1 hb
    | cons_cons _ h =>
      have hb : b ∈ t := h.subset (by simp)
      rw [List.filter_cons,if_pos (by simp)]
      congr 1
      refine flt1 hn.2 hb (by simp) fun y hy e => ?_
      simp only [List.mem_cons,List.not_mem_nil,or_false,decide_eq_false_iff_not]
      rintro (rfl | rfl)
      · exact hn.1 hy
      · exact e rfl
def bef (w : Wrk) (a b : ID) : Bool := decide ((ordS (insL [a,b]) (alW w)).2.length = 2 ∧ gt (ordS (insL [a,b]) (alW w)).2 0 = a)
theorem bef_T {w : Wrk} (h : (idsA w).Nodup) {a b : ID} (hs : List.Sublist [a,b] (idsA w)) : bef w a b = true := by
  have e := ordW_flt h [a,b]
  unfold ordW' at e
  unfold bef
  rw [e,flt2 h hs]
  exact decide_eq_true ⟨rfl,rfl⟩
theorem bef_F {w : Wrk} (h : (idsA w).Nodup) {a b : ID} (hs : List.Sublist [b,a] (idsA w)) : bef w a b = false := by
  have e := ordW_flt h [a,b]
  unfold ordW' at e
  have hn : [b,a].Nodup := hs.nodup h
  have e2 : ((idsA w).filter fun x => decide (x ∈ [a,b])) = [b,a] := by
    rw [← flt2 h hs]
    refine List.filter_congr fun x _ => ?_
    rw [decide_eq_decide]; simp only [List.mem_cons,List.not_mem_nil,or_false]; exact ⟨fun h => h.symm,fun h => h.symm⟩
  unfold bef
  rw [e,e2,decide_eq_false]
  rintro ⟨_,q⟩
  have q : b = a := q
  subst q
  simp at hn
theorem bef_E {w : Wrk} (h : (idsA w).Nodup) {a : ID} (ha : a ∈ idsA w) : bef w a a = false := by
  have e := ordW_flt h [a,a]
  unfold ordW' at e
  have e2 : ((idsA w).filter fun x => decide (x ∈ [a,a])) = [a] := flt1 h ha (by simp) fun x _ hx => by simp [hx]
  unfold bef
  rw [e,e2]
  rfl
theorem pair_sub {l : List ID} {i k : Nat} (hi : i < k) (hk : k < l.length) : List.Sublist [gt l i,gt l k] l := by
  have h1 : List.Sublist [gt l i] (l.take (i + 1)) := by
    rw [List.singleton_sublist,← take_sn l i (by omega)]; simp
  have h2 : List.Sublist [gt l k] (l.drop (i + 1)) := by
    rw [List.singleton_sublist]
    have : gt l k = gt (l.drop (i + 1)) (k - (i + 1)) := by
      simp only [gt,List.getD,List.getElem?_drop]; rw [show i + 1 + (k - (i + 1)) = k by omega]
    rw [this]
    exact gt_mem' _ _ (by rw [List.length_drop]; omega)
  have := h1.append h2
  rwa [List.take_append_drop] at this
theorem bef_ik {w : Wrk} (h : (idsA w).Nodup) {i k : Nat} (hi : i < (idsA w).length) (hk : k < (idsA w).length) : bef w (gt (idsA w) i) (gt (idsA w) k) = decide (i < k) := by
  rcases Nat.lt_trichotomy i k with q | q | q
  · rw [bef_T h (pair_sub q hk),decide_eq_true q]
  · subst q; rw [bef_E h (gt_mem' _ _ hi),decide_eq_false (Nat.lt_irrefl _)]
  · rw [bef_F h (pair_sub q hi),decide_eq_false (by omega)]
theorem bef_got {w : Wrk} (h : (idsA w).Nodup) {m : List ID} {i : Nat} (h0 : 0 < i) (hi : i < (ordW' w m).length) : bef w (gt (ordW' w m) (i - 1)) (gt (ordW' w m) i) = true := by
  refine bef_T h ((pair_sub (by omega) hi).trans ?_)
  rw [ordW_flt h]
  exact List.filter_sublist
theorem got_mem {w : Wrk} (h : (idsA w).Nodup) {m : List ID} {x : ID} : x ∈ ordW' w m ↔ x ∈ idsA w ∧ x ∈ m := by
  rw [ordW_flt h,List.mem_filter,decide_eq_true_iff]
theorem nodup_ne {l : List ID} (h : l.Nodup) {j i : Nat} (hj : j < i) (hi : i < l.length) : ¬ gt l j = gt l i := fun e => by
  have h2 := (pair_sub hj hi).nodup h
  rw [e] at h2; simp at h2
theorem fnd_at {w : Wrk} (h : (idsA w).Nodup) {i : Nat} (hi : i < (rdW w).length) : fnd w (gt (rdW w) i).2.1 = ((gt (rdW w) i).1,true) := by
  refine fnd_T hi (fun j hj => ?_) rfl
  rw [← idsA_gt w i hi,← idsA_gt w j (by omega)]
  exact nodup_ne h hj (by rw [idsA_len]; exact hi)
theorem fnd_is (w : Wrk) (x : ID) : (fnd w x).2 = decide (x ∈ idsA w) := by
  unfold fnd
  cases e : (rdW w).find? (fun r => decide (r.2.1 = x)) with
  | some r =>
    have h1 := List.mem_of_find?_eq_some e
    have h2 := List.find?_some e
    symm
    simp only [decide_eq_true_iff] at h2 ⊢
    unfold idsA alW
    rw [List.map_map]
    exact List.mem_map.2 ⟨r,h1,h2⟩
  | none =>
    rw [List.find?_eq_none] at e
    symm
    simp only [decide_eq_false_iff_not]
    unfold idsA alW
    rw [List.map_map]
    intro hx
    obtain ⟨r,h1,h2⟩ := List.mem_map.1 hx
    exact e r h1 (decide_eq_true h2)
theorem rdW_at (w : Wrk) (i : Nat) (hi : i < (rdW w).length) : ∃ v a j,v < w.length ∧ a < (gt w v).length ∧ j < (gt (gt w v) a).2.length ∧ gt (rdW w) i = ((v,a,j),gt (gt (gt w v) a).2 j) := by
  have hm := gt_mem' (rdW w) i hi
  generalize gt (rdW w) i = r at hm
  unfold rdW at hm
  obtain ⟨v,hv,hm⟩ := List.mem_flatMap.1 hm
  unfold rdV at hm
  obtain ⟨a,ha,hm⟩ := List.mem_flatMap.1 hm
  unfold rdA at hm
  obtain ⟨j,hj,hm⟩ := List.mem_map.1 hm
  exact ⟨v,a,j,List.mem_range.1 hv,List.mem_range.1 ha,List.mem_range.1 hj,hm.symm⟩
def idk (k : Nat) : ID := (((0 : Nat) : Int),(k : Int),((0 : Nat) : Int))
theorem psF_1 (p : Psg) (j : Nat) (ps : List Psg) : (psF p j ps).1 = p.1 := by unfold psF; split <;> rfl
theorem psF_2 (p : Psg) (j : Nat) (ps : List Psg) : (psF p j ps).2.2 = p.2.2 := by unfold psF; split <;> rfl
theorem psP_ids (l : List Int) (n : Nat) : ∀ j,(psP l n j).map (·.1) = (List.range' n j).map idk
  | 0 => rfl
  | j + 1 => by
    rw [psP,List.map_append,psP_ids l n j,List.range'_concat,List.map_append,Nat.one_mul]
    simp only [List.map_cons,List.map_nil,psF_1]
    rfl
theorem fm_sn {α β : Type} (f : α → List β) (l : List α) (x : α) : (l ++ [x]).flatMap f = l.flatMap f ++ f x := by rw [List.flatMap_append]; simp
theorem arP_ids (l : List Int) (i n : Nat) : ∀ k,n ≤ (arP l i n k).2 ∧ (((arP l i n k).1.flatMap (·.2)).map (·.1)) = (List.range' n ((arP l i n k).2 - n)).map idk
  | 0 => ⟨Nat.le_refl _,by simp [arP]⟩
  | k + 1 => by
    obtain ⟨h1,h2⟩ := arP_ids l i n k
    refine ⟨Nat.le_trans h1 (Nat.le_add_right ..),?_⟩
    simp only [arP]
    rw [fm_sn,List.map_append,h2,psP_ids,← List.map_append]
    congr 1
    generalize (arP l i n k).2 = m at h1
    have := List.range'_append (s := n) (m := m - n) (n := cntP l i k m) (step := 1)
    rw [show n + 1 * (m - n) = m by omega] at this
    rw [this]
    congr 1; omega
theorem voP_ids (l : List Int) : ∀ i,(((voP l i).1.flatMap fun V => V.flatMap (·.2)).map (·.1)) = (List.range' 0 (voP l i).2).map idk
  | 0 => rfl
  | i + 1 => by
    have h := arP_ids l i (voP l i).2 (1 + atI l (1 + i) 2)
    simp only [voP]
    rw [fm_sn,List.map_append,voP_ids l i,h.2,← List.map_append]
    congr 1
    have h1 := h.1
    generalize (arP l i (voP l i).2 (1 + atI l (1 + i) 2)).2 = m at h1
    generalize (voP l i).2 = n at h1
    have := List.range'_append (s := 0) (m := n) (n := m - n) (step := 1)
    rw [show 0 + 1 * n = n by omega] at this
    rw [this]
    congr 1; omega
theorem wkW_ids (l : List Int) : idsA (wkW l) = (List.range' 0 (voP l (1 + atI l 0 4 / 3)).2).map idk := by
  unfold idsA; rw [alW_fl]; exact voP_ids l _
theorem idk_inj {a b : Nat} (h : idk a = idk b) : a = b := by
  unfold idk at h
  have := congrArg (fun x : ID => x.2.1) h
  simp only [] at this; omega
theorem wkW_nodup (l : List Int) : (idsA (wkW l)).Nodup := by
  rw [wkW_ids]
  have h : (List.range' 0 (voP l (1 + atI l 0 4 / 3)).2).Nodup := List.nodup_range'
  generalize List.range' 0 (voP l (1 + atI l 0 4 / 3)).2 = r at h
  induction r with
  | nil => exact List.nodup_nil
  | cons x r ih =>
    rw [List.nodup_cons] at h
    rw [List.map_cons,List.nodup_cons]
    refine ⟨fun hx => ?_,ih h.2⟩
    obtain ⟨y,hy,e⟩ := List.mem_map.1 hx
    rw [idk_inj e] at hy
    exact h.1 hy
theorem wkW_al (l : List Int) : (alW (wkW l)).length ≤ 8 := by
  have := congrArg List.length (wkW_ids l)
  unfold idsA at this
  rw [List.length_map,List.length_map,List.length_range'] at this
  rw [this]; exact voP_le l _
theorem oneP_pg (l : List Int) (a k : Nat) (h : k < 9) : PG (oneP l a (idk k)) ∧ (oneP l a (idk k)).2.2.2.1.length ≤ 100 ∧ (oneP l a (idk k)).2.2.2.2.length ≤ 2 := by
  have h1 := txtP_len l a (oneN l a)
  have h2 := oneN_le l a
  have h3 := refP_len l a (oneN l a)
  refine ⟨⟨?_,?_,?_⟩,?_,?_⟩
  · show (txtP l a (oneN l a)).length ≤ _; omega
  · show (refP l a (oneN l a)).length ≤ _; omega
  · refine ⟨⟨?_,?_⟩,⟨?_,?_⟩,?_,?_⟩ <;> simp only [oneP,idk] <;> omega
  · show (txtP l a (oneN l a)).length ≤ _; omega
  · show (refP l a (oneN l a)).length ≤ _; omega
theorem psP_pg (l : List Int) (n : Nat) : ∀ j,n + j ≤ 8 → ∀ p,p ∈ psP l n j → PG p
  | 0,_,p,hp => by cases hp
  | j + 1,h,p,hp => by
    rw [psP,List.mem_append,List.mem_singleton] at hp
    rcases hp with hp | rfl
    · exact psP_pg l n j (by omega) p hp
    · have := (oneP_pg l (9 + 4 * (n + j)) (n + j) (by omega)).1
      unfold PG at this ⊢
      rw [psF_1,psF_2]; exact this
theorem arP_pg (l : List Int) (i n : Nat) (h : n ≤ 8) : ∀ k,∀ A,A ∈ (arP l i n k).1 → A.1.length ≤ 1000000 ∧ A.2.length ≤ 100000 ∧ ∀ p,p ∈ A.2 → PG p
  | 0,A,hA => by cases hA
  | k + 1,A,hA => by
    simp only [arP] at hA
    rw [List.mem_append,List.mem_singleton] at hA
    rcases hA with hA | rfl
    · exact arP_pg l i n h k A hA
    · have h1 := arP_le l i n h k
      have h2 : cntP l i k (arP l i n k).2 = min (1 + atI l (5 + 2 * i + k) 3) (8 - (arP l i n k).2) := rfl
      refine ⟨?_,?_,?_⟩
      · have := (textT_ok l (3 + i + k)).2.1; show (textT l (3 + i + k)).length ≤ _; omega
      · show (psP _ _ _).length ≤ _; rw [psP_len]; omega
      · exact psP_pg l _ _ (by omega)
theorem voP_pg (l : List Int) : ∀ i,∀ V,V ∈ (voP l i).1 → V.length ≤ 2 ∧ ∀ A,A ∈ V → A.1.length ≤ 1000000 ∧ A.2.length ≤ 100000 ∧ ∀ p,p ∈ A.2 → PG p
  | 0,V,hV => by cases hV
  | i + 1,V,hV => by
    simp only [voP] at hV
    rw [List.mem_append,List.mem_singleton] at hV
    rcases hV with hV | rfl
    · exact voP_pg l i V hV
    · refine ⟨?_,arP_pg l i _ (voP_le l i) _⟩
      rw [arP_len]
      have := atI_lt l (1 + i) (m := 2) (by decide); omega
theorem wkW_len (l : List Int) : (wkW l).length = 1 + atI l 0 4 / 3 := voP_len l _
theorem nA_bnd {w : Wrk} {c : Nat} (h : ∀ V,V ∈ w → V.length ≤ c) : ∀ v,v ≤ w.length → nA w v ≤ c * v
  | 0,_ => Nat.zero_le _
  | v + 1,hv => by
    rw [nA_S w v (by omega)]
    have h1 := nA_bnd h v (by omega)
    have h2 := h _ (gt_mem' w v (by omega))
    rw [Nat.mul_succ]; omega
theorem wkW_wg (l : List Int) : WG (wkW l) := by
  have h1 := wkW_len l
  have h2 := atI_lt l 0 (m := 4) (by decide)
  refine ⟨by omega,by have := wkW_al l; omega,?_,fun V hV => ?_⟩
  · have := nA_bnd (w := wkW l) (fun V hV => (voP_pg l _ V hV).1) (wkW l).length (Nat.le_refl _)
    omega
  · have := voP_pg l _ V hV
    exact ⟨by omega,this.2⟩
theorem idI_ok {w : Wrk} (h : WG w) (m : List Int) (i : Nat) : IdOk (idI w m i) := by
  unfold idI
  split
  · rename_i hk
    rw [alW_len] at hk
    rw [alW_gt w _ (by rw [alW_len]; exact hk)]
    have := h.id _ hk
    rw [alW_len]; exact this
  · have h1 := atI_lt m (2 * i + 1) (m := 3) (by decide)
    have h2 := atI_lt m (2 * i + 1) (m := 10) (by decide)
    refine ⟨⟨?_,?_⟩,⟨?_,?_⟩,?_,?_⟩ <;> simp only [] <;> omega
theorem idsW_ok {w : Wrk} (h : WG w) (m : List Int) : (∀ x,x ∈ idsW w m → IdOk x) ∧ (idsW w m).length ≤ 12 := by
  constructor
  · intro x hx
    unfold idsW at hx
    obtain ⟨i,_,rfl⟩ := List.mem_map.1 hx
    exact idI_ok h m i
  · unfold idsW idN; rw [List.length_map,List.length_range]; omega
end Go.Sx
namespace Go.Sx
open Go.RowKit Go.Proofs
set_option maxRecDepth 100000
set_option maxHeartbeats 8000000
theorem X_fc7 {p : Prop} (e : p := by intro KZ hZ; simp -implicitDefEqProofs (disch := first | omega | (simp only [go_sem,lA,lD,lT,hLA,hS2,hG2] <;> omega) | decide) only [go_sem,↓reduceIte,Nat.reduceEqDiff,reduceCtorEq,Nat.reduceLT,Nat.reduceBEq,Nat.reduceAdd,e18,e24,e32,e34,e36,e30,e22,e28,e37,h17,d1,b1,d2,hy]; with_reducible exact hZ) : p := e
theorem Y_fc7 {p : Prop} (e : p := by intro KZ hZ; simp -implicitDefEqProofs (disch := first | omega | (simp only [go_sem,lA,lD,lT,hLA,hS2,hG2] <;> omega) | decide) only [go_sem,↓reduceIte,Nat.reduceEqDiff,reduceCtorEq,Nat.reduceLT,Nat.reduceBEq,Nat.reduceAdd,e18,e24,e32,e34,e36,e30,e22,e28,e37,h17,d1,b1,d2,hy]; with_reducible refine And.intro ?_ hZ; first | exact rfl | decide) : p := e
theorem F_fc7 {p : Prop} (e : p := by simp -implicitDefEqProofs (disch := first | omega | (simp only [go_sem,lA,lD,lT,hLA,hS2,hG2] <;> omega) | decide) only [go_sem,↓reduceIte,Nat.reduceEqDiff,reduceCtorEq]; all_goals (rfl)) : p := e
theorem fc7 {gl : Nat → C} {M : Nat} {pu : Nat → List C → Option C} (hcx : CxOK (cxP gl M pu)) (h18 : ∀ l : List Int,LI l → pu 18 [sl iC .no l] = some (.agg [sl vC .no (wkW l)])) (h24 : ∀ w : Wrk,WS w → pu 24 [.agg [sl vC .no w]] = some (sl pC .no (alW w))) (h32 : ∀ (w : Wrk) (id : ID),WB w → pu 32 [.agg [sl vC .no w],.agg (iD id)] = some (.tup [.agg [.val (nI (fnd w id).1.1),.val (nI (fnd w id).1.2.1),.val (nI (fnd w id).1.2.2)],.val (.bool (fnd w id).2)])) (h34 : ∀ (w : Wrk) (v a i : Nat),v < w.length → a < (gt w v).length → i < (gt (gt w v) a).2.length → (gt (gt (gt w v) a).2 i).2.2.2.2.length ≤ 1000000 → WB w → pu 34 [.agg [sl vC .no w],.agg [.val (nI v),.val (nI a),.val (nI i)]] = some (.tup [.agg (pC (gt (gt (gt w v) a).2 i)),.val (.bool true)])) (h36 : ∀ a b : Psg,a.2.2.2.2.length ≤ 1000000 → b.2.2.2.2.length ≤ 1000000 → pu 36 [.agg (pC a),.agg (pC b)] = some (.val (.bool (decide (a = b))))) (h30 : ∀ (w : Wrk) (a b : ID),WS w → IdOk a → IdOk b → (∀ i,i < (rdW w).length → IdOk (gt (rdW w) i).2.1) → pu 30 [.agg [sl vC .no w],.agg (iD a),.agg (iD b)] = some (.val (.bool (decide ((ordS (insL [a,b]) (alW w)).2.length = 2 ∧ gt (ordS (insL [a,b]) (alW w)).2 0 = a))))) (h22 : ∀ (w : Wrk) (m : List Int),WS w → LI m → pu 22 [.agg [sl vC .no w],sl iC .no m] = some (sl iD (.own 3) (idsW w m))) (h28 : ∀ (w : Wrk) (l : List ID),WS w → (∀ x ∈ l,IdOk x) → l.length ≤ 1000000 → (∀ i,i < (rdW w).length → IdOk (gt (rdW w) i).2.1) → pu 28 [.agg [sl vC .no w],sl iD .no l] = some (sl iD .no (ordS (insL l) (alW w)).2)) (h37 : ∀ (l : List ID) (x : ID),l.length ≤ 1000000 → pu 37 [sl iD .no l,.agg (iD x)] = some (.val (.bool (decide (x ∈ l))))) (h17 : pu 17 [] = some (.val (.bool true))) (l m : List Int) (hl : LI l) (hm : LI m) : FC Tryd.prog gl 7 [sl iC .no l,sl iC .no m] [] (.val (.bool true)) [] := by
 replace hcx := hcx.reN (M := 143)
 refine FC.ofA (cx := cxP gl 143 pu) (rs := [.tmp 4]) rfl Tryd.func7 rfl rfl rfl (by simp only [List.length_cons,List.length_nil]; decide) (by simp only [go_sem]) ?_
 simp only [ini,go_sem]
 have d1 := True.intro
 have b1 := True.intro
 have d2 := True.intro
 have hy := True.intro
 have e18 := h18 l hl
 have hW := wkW_wg l
 have hN := wkW_nodup l
 generalize wkW l = w at e18 hW hN
 have e24 := h24 w hW.ws
 have hLA := hW.al
 have e32 := True.intro
 have e34 := True.intro
 have e36 := True.intro
 have e30 := True.intro
 have e22 := True.intro
 have e28 := True.intro
 have e37 := True.intro
 have hS2 := True.intro
 have hG2 := True.intro
 refine Tr.w hcx [] _ [] rfl rfl rfl ?_ X_fc7
 refine Tr.w hcx [] _ [none] rfl rfl rfl ?_ X_fc7
 refine Tr.f1 hcx 0 [sl vC .no w] ?_
 refine Tr.m1 hcx [] ?_
 refine Tr.w hcx [1000022] _ [] rfl rfl rfl ?_ X_fc7
 refine Tr.seqK fun K1 hK1 => ?_
 refine Tr.w hcx [] _ [] rfl rfl rfl ?_ X_fc7
 refine Tr.k [1,5,6,7] ?_
 refine Tr.blk ?_
 refine Tr.loopI (α := Nat) (fun a => [(1,?v1_1),(5,?v5_1),(6,?v6_1),(7,.val (nI a))]) (fun a => []) (fun a => a ≤ (alW w).length) (fun a => (alW w).length - a) (0) (Nat.zero_le _) ?le_1 ?hh_1 ?bd_1
 case hh_1 => exact rfl
 case le_1 => exact LT
 rintro i hi
 refine Tr.seqK fun K2 hK2 => ?_
 refine Tr.w hcx [] _ [] rfl rfl rfl ?_ X_fc7
 refine Tr.cD rfl (fun hc26 => ?_) (fun hc26 => ?_)
 ·
  have hi2 : i < (rdW w).length := by rw [← alW_len]; exact hc26
  obtain ⟨v,a,j,hv,ha,hj,hr⟩ := rdW_at w i hi2
  have hP : gt (alW w) i = gt (gt (gt w v) a).2 j := by rw [alW_gt w i hi2,hr]
  have hpg := hW.pg hi2
  rw [← alW_gt w i hi2] at hpg
  have e32 := h32 w (gt (alW w) i).1 hW.wb
  have hf := fnd_at hN hi2
  rw [← alW_gt w i hi2] at hf
  rw [hf,hr] at e32
  simp only [] at e32
  have e34 := h34 w v a j hv ha hj (by rw [← hP]; exact hpg.2.1) hW.wb
  rw [← hP] at e34
  have e36 := (h36 (gt (alW w) i) (gt (alW w) i) hpg.2.1 hpg.2.1).trans (by rw [decide_eq_true rfl])
  have hiA : i < (idsA w).length := by rw [idsA_len]; exact hi2
  have e30 : ∀ k,k < (alW w).length → pu 30 [.agg [sl vC .no w],.agg (iD (gt (alW w) i).1),.agg (iD (gt (alW w) k).1)] = some (.val (.bool (decide (i < k)))) := fun k hk => by
    have hk2 : k < (rdW w).length := by rw [← alW_len]; exact hk
    have hkA : k < (idsA w).length := by rw [idsA_len]; exact hk2
    have hb := bef_ik hN hiA hkA
    rw [idsA_gt w i hi2,idsA_gt w k hk2,← alW_gt w i hi2,← alW_gt w k hk2] at hb
    have hid := hW.id k hk2
    rw [← alW_gt w k hk2] at hid
    rw [h30 w _ _ hW.ws hpg.2.2 hid hW.id]
    unfold bef at hb
    rw [hb]
  refine Tr.skip ?_
  refine hK2 _ ?_
  refine Tr.seqK fun K3 hK3 => ?_
  refine Tr.blk ?_
  refine Tr.wD hcx hMO [1000038] _ [none] rfl rfl rfl rfl ?_ Y_fc7
  refine Tr.k [1,5,6,7,8,9] ?_
  refine Tr.w hcx [1000044] _ [none] rfl rfl rfl ?_ X_fc7
  refine Tr.k [1,5,6,7,9,10,11] ?_
  refine Tr.seqK fun K4 hK4 => ?_
  refine Tr.wD hcx hMO [] [some 45,some 46,some 47,some 48,some 49,some 50,some 51,some 52,some 53,some 54,some 55,some 56,some 57,some 58,some 59] [] rfl rfl rfl rfl ?_ Y_fc7
  refine Tr.cF rfl ?_
  refine Tr.skip ?_
  refine hK4 _ ?_
  refine Tr.k [1,5,6,7] ?_
  refine Tr.m1 hcx [] ?_
  refine Tr.w hcx [] _ [] rfl rfl rfl ?_ X_fc7
  refine Tr.k [1,5,6,7,12] ?_
  refine Tr.blk ?_
  refine Tr.loopI (α := Nat) (fun a => [(1,?v1_2),(5,?v5_2),(6,?v6_2),(7,?v7_2),(12,.val (nI a))]) (fun a => []) (fun a => a ≤ (alW w).length) (fun a => (alW w).length - a) (0) (Nat.zero_le _) ?le_2 ?hh_2 ?bd_2
  case hh_2 => exact rfl
  case le_2 => exact LT
  rintro k hk
  refine Tr.seqK fun K5 hK5 => ?_
  refine Tr.w hcx [] _ [] rfl rfl rfl ?_ X_fc7
  refine Tr.cD rfl (fun hc63 => ?_) (fun hc63 => ?_)
  ·
   have e30 := e30 k hc63
   refine Tr.skip ?_
   refine hK5 _ ?_
   refine Tr.seqK fun K6 hK6 => ?_
   refine Tr.blk ?_
   by_cases d1 : i < k
   ·
    replace d1 := eq_true d1
    refine Tr.wD hcx hMO [] _ [] rfl rfl rfl rfl ?_ Y_fc7
    refine Tr.cF rfl ?_
    refine Tr.skip ?_
    refine hK6 _ ?_
    refine Tr.k [1,5,6,7,12] ?_
    refine Tr.v hcx [1000065] _ [] rfl rfl rfl ?_ X_fc7
    exact ⟨k + 1,⟨(by omega),O1⟩,LT,rfl⟩
   replace d1 := eq_false d1
   refine Tr.wD hcx hMO [] _ [] rfl rfl rfl rfl ?_ Y_fc7
   refine Tr.cF rfl ?_
   refine Tr.skip ?_
   refine hK6 _ ?_
   refine Tr.k [1,5,6,7,12] ?_
   refine Tr.v hcx [1000065] _ [] rfl rfl rfl ?_ X_fc7
   exact ⟨k + 1,⟨(by omega),O1⟩,LT,rfl⟩
  refine Tr.exit ?_
  refine hK3 _ ?_
  refine Tr.v hcx [1000028] _ [] rfl rfl rfl ?_ X_fc7
  exact ⟨i + 1,⟨(by omega),O1⟩,LT,rfl⟩
 refine Tr.exit ?_
 refine hK1 _ ?_
 have e22 := h22 w m hW.ws hm
 have hS := idsW_ok hW m
 obtain ⟨S,hSS⟩ : ∃ S,idsW w m = S := ⟨_,rfl⟩
 rw [hSS] at e22 hS
 have hS2 := hS.2
 have e28 := h28 w S hW.ws hS.1 (by omega) hW.id
 have hG := fun x => got_mem hN (m := S) (x := x)
 have hB := fun i h0 hi => bef_got hN (m := S) (i := i) h0 hi
 unfold ordW' at hG hB
 obtain ⟨G,hGG⟩ : ∃ G,(ordS (insL S) (alW w)).2 = G := ⟨_,rfl⟩
 rw [hGG] at e28 hG hB
 have hG2 : G.length ≤ (alW w).length := by rw [← hGG]; exact ordS_len _ _
 refine Tr.w hcx [1000084] _ [] rfl rfl rfl ?_ X_fc7
 refine Tr.w hcx [1000087] _ [] rfl rfl rfl ?_ X_fc7
 refine Tr.seqK fun K7 hK7 => ?_
 refine Tr.w hcx [] _ [] rfl rfl rfl ?_ X_fc7
 refine Tr.k [5,13,14,15] ?_
 refine Tr.blk ?_
 refine Tr.loopI (α := Nat) (fun a => [(5,?v5_3),(13,?v13_3),(14,?v14_3),(15,.val (nI a))]) (fun a => []) (fun a => a ≤ G.length) (fun a => G.length - a) (0) (Nat.zero_le _) ?le_3 ?hh_3 ?bd_3
 case hh_3 => exact rfl
 case le_3 => exact LT
 rintro i hi
 refine Tr.seqK fun K8 hK8 => ?_
 refine Tr.w hcx [] _ [] rfl rfl rfl ?_ X_fc7
 refine Tr.cD rfl (fun hc91 => ?_) (fun hc91 => ?_)
 ·
  have hgi := (hG _).1 (gt_mem' G i hc91)
  have e37 := (h37 S (gt G i) (by omega)).trans (by rw [decide_eq_true hgi.2])
  have hIdA : ∀ x,x ∈ idsA w → IdOk x := fun x hx => by
    obtain ⟨k,hk,rfl⟩ := gt_of_mem hx
    have hk2 : k < (rdW w).length := by rw [← idsA_len]; exact hk
    rw [idsA_gt w k hk2]; exact hW.id k hk2
  refine Tr.skip ?_
  refine hK8 _ ?_
  refine Tr.k [5,13,14,15] ?_
  refine Tr.seqK fun K9 hK9 => ?_
  refine Tr.blk ?_
  by_cases b1 : 0 < i
  ·
   have e30 : pu 30 [.agg [sl vC .no w],.agg (iD (gt G (i - 1))),.agg (iD (gt G i))] = some (.val (.bool true)) := by
     have hb := hB i b1 hc91
     unfold bef at hb
     rw [h30 w _ _ hW.ws (hIdA _ ((hG _).1 (gt_mem' G (i - 1) (by omega))).1) (hIdA _ hgi.1) hW.id,hb]
   refine Tr.wD hcx hMO [] [some 94,some 95,some 96,some 97,some 98,some 99,some 100,some 101,some 102,some 103,some 104,some 105,some 106,some 107,some 108,some 109,some 110,some 111,some 112,some 113,some 114,some 115,some 116,some 117,some 118] [] rfl rfl rfl rfl ?_ Y_fc7
   refine Tr.k [5,13,14,15,118] ?_
   refine Tr.cF rfl ?_
   refine Tr.skip ?_
   refine hK9 _ ?_
   refine Tr.v hcx [1000093] _ [] rfl rfl rfl ?_ X_fc7
   exact ⟨i + 1,⟨(by omega),O1⟩,LT,rfl⟩
  skip
  refine Tr.wD hcx hMO [] [some 94,some 95,some 96,some 97,some 98,some 99,some 100,some 101,some 102,some 103,some 104,some 105,some 106,some 107,some 108,some 109,some 110,some 111,some 112,some 113,some 114,some 115,some 116,some 117,some 118] [] rfl rfl rfl rfl ?_ Y_fc7
  refine Tr.k [5,13,14,15,118] ?_
  refine Tr.cF rfl ?_
  refine Tr.skip ?_
  refine hK9 _ ?_
  refine Tr.v hcx [1000093] _ [] rfl rfl rfl ?_ X_fc7
  exact ⟨i + 1,⟨(by omega),O1⟩,LT,rfl⟩
 refine Tr.exit ?_
 refine hK7 _ ?_
 refine Tr.seqK fun K10 hK10 => ?_
 refine Tr.w hcx [] _ [] rfl rfl rfl ?_ X_fc7
 refine Tr.k [5,13,14,16] ?_
 refine Tr.blk ?_
 refine Tr.loopI (α := Nat) (fun a => [(5,?v5_4),(13,?v13_4),(14,?v14_4),(16,.val (nI a))]) (fun a => []) (fun a => a ≤ S.length) (fun a => S.length - a) (0) (Nat.zero_le _) ?le_4 ?hh_4 ?bd_4
 case hh_4 => exact rfl
 case le_4 => exact LT
 rintro i hi
 refine Tr.seqK fun K11 hK11 => ?_
 refine Tr.w hcx [] _ [] rfl rfl rfl ?_ X_fc7
 refine Tr.cD rfl (fun hc122 => ?_) (fun hc122 => ?_)
 ·
  have hsi := gt_mem' S i hc122
  have e32 := h32 w (gt S i) hW.wb
  have hf := fnd_is w (gt S i)
  rw [hf] at e32
  have e37 : pu 37 [sl iD .no G,.agg (iD (gt S i))] = some (.val (.bool (decide (gt S i ∈ idsA w)))) := (h37 G (gt S i) (by omega)).trans (by rw [decide_eq_decide.2 ((hG (gt S i)).trans ⟨fun h => h.1,fun h => ⟨h,hsi⟩⟩)])
  refine Tr.skip ?_
  refine hK11 _ ?_
  refine Tr.seqK fun K12 hK12 => ?_
  refine Tr.blk ?_
  by_cases d2 : gt S i ∈ idsA w
  ·
   replace d2 := eq_true d2
   refine Tr.wD hcx hMO [1000133] _ [none] rfl rfl rfl rfl ?_ Y_fc7
   refine Tr.k [5,13,14,16,18] ?_
   refine Tr.w hcx [] _ [] rfl rfl rfl ?_ X_fc7
   refine Tr.cF rfl ?_
   refine Tr.skip ?_
   refine hK12 _ ?_
   refine Tr.k [1,5,13,14,16] ?_
   refine Tr.m1 hcx [] ?_
   refine Tr.v hcx [1000124] _ [] rfl rfl rfl ?_ X_fc7
   exact ⟨i + 1,⟨(by omega),O1⟩,LT,rfl⟩
  replace d2 := eq_false d2
  refine Tr.wD hcx hMO [1000133] _ [none] rfl rfl rfl rfl ?_ Y_fc7
  refine Tr.k [5,13,14,16,18] ?_
  refine Tr.w hcx [] _ [] rfl rfl rfl ?_ X_fc7
  refine Tr.cF rfl ?_
  refine Tr.skip ?_
  refine hK12 _ ?_
  refine Tr.k [1,5,13,14,16] ?_
  refine Tr.m1 hcx [] ?_
  refine Tr.v hcx [1000124] _ [] rfl rfl rfl ?_ X_fc7
  exact ⟨i + 1,⟨(by omega),O1⟩,LT,rfl⟩
 refine Tr.exit ?_
 refine hK10 _ ?_
 refine Tr.w hcx [1000142] _ [] rfl rfl rfl ?_ X_fc7
 exact Tr.ret F_fc7
end Go.Sx
namespace Go.Sx
open Go.RowKit Go.Proofs
theorem iD_inj {x y : ID} : iD x = iD y ↔ x = y := ⟨fun h => Inj.inj _ _ h,fun h => by rw [h]⟩
theorem pC_inj {x y : Psg} : pC x = pC y ↔ x = y := ⟨fun h => Inj.inj _ _ h,fun h => by rw [h]⟩
section
variable {gl : Nat → C} {pu : Nat → List C → Option C}
noncomputable def mk64 (hgn : ∀ g,noRef 0 (gl g) = true) : Mk Tryd.prog gl 64 Unit where
  args := fun _ => []
  r := fun _ => .agg [.gv 3 1 (1,46)]
  Y := fun _ => [some [.gv 3 1 (1,46)],some (cl pC exPs),some [.val (str tOdes),.gv 1 3 (7,37)],some [.gv 2 1 (2,48)]]
  nr := fun _ => rfl
  inj := fun _ _ _ => ⟨rfl,rfl⟩
  fc := fun _ => fc64 (M := 0) (pu := fun _ _ => none) (CxOK.zero hgn)
noncomputable def hp64 (hgn : ∀ g,noRef 0 (gl g) = true) : Nat → List C → Hp → Option (C × Hp) := (mk64 hgn).tab (fun _ _ _ => none)
theorem okMk (hgn : ∀ g,noRef 0 (gl g) = true) (h : CxOK (cxP gl 0 pu)) : CxOK (cxR gl 0 pu (hp64 hgn)) := CxOK.mk1 (cxM_of h) (mk64 hgn)
theorem hq64_of (hgn : ∀ g,noRef 0 (gl g) = true) : ∀ pre : Hp,OkH pre → hp64 hgn 64 [] pre = some (.agg [.gv (pre.length + 3) 1 (1,46)],pre ++ [some [.gv (pre.length + 3) 1 (1,46)],some (cl pC exPs),some [.val (str tOdes),.gv (pre.length + 1) 3 (7,37)],some [.gv (pre.length + 2) 1 (2,48)]]) := fun pre h => by
  have e := (mk64 hgn).look (fun _ _ _ => none) () pre h
  unfold hp64
  refine e.trans ?_
  have e1 : ∀ n,shH n ((mk64 hgn).Y ()) = [some [.gv (n + 3) 1 (1,46)],some (cl pC exPs),some [.val (str tOdes),.gv (n + 1) 3 (7,37)],some [.gv (n + 2) 1 (2,48)]] := fun n => by
    show [_,_,_,_] = _
    simp only [Option.map_some,bkCs,bkC,bks_nr _ _ (noRefs_cl pC 0 exPs)]
  rw [e1]
  rfl
end
end Go.Sx
