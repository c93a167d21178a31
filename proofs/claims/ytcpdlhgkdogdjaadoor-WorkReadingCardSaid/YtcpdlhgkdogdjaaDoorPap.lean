/-
   And what follows.
-/
import Derived.Test.YtcpdlhgkdogdjaaDoorPao
set_option linter.unusedSimpArgs false
set_option linter.unusedVariables false
namespace Go.Sx
open Go.RowKit Go.Proofs
set_option maxRecDepth 100000
set_option maxHeartbeats 8000000
noncomputable def cxM (gl : Nat → C) (M : Nat) (pu : Nat → List C → Option C) : Cx := ⟨Tryd.prog,M,gl,pu,fun _ _ _ => none,fun _ => false,kmW,true⟩
noncomputable def cxMT (gl : Nat → C) (M : Nat) (pu : Nat → List C → Option C) : Cx := ⟨Tryd.prog,M,gl,pu,fun _ _ _ => none,fun _ => false,kmW,false⟩
theorem cxM_of {gl : Nat → C} {M : Nat} {pu : Nat → List C → Option C} (hcx : CxOK (cxP gl M pu)) : CxOK (cxM gl M pu) := ⟨hcx.glo,hcx.pu,(fun _ _ _ _ _ h => by cases h),km_okW⟩
section
variable {gl : Nat → C} {M : Nat} {pu : Nat → List C → Option C}
theorem cxM_P : (cxM gl M pu).P = Tryd.prog := rfl
theorem cxM_N : (cxM gl M pu).N = M := rfl
theorem cxM_pu : (cxM gl M pu).pu = pu := rfl
theorem cxM_gr (d : Option Nat) : isG (cxM gl M pu) d = false := by cases d <;> rfl
theorem cxMT_P : (cxMT gl M pu).P = Tryd.prog := rfl
theorem cxMT_N : (cxMT gl M pu).N = M := rfl
theorem cxMT_pu : (cxMT gl M pu).pu = pu := rfl
theorem cxMT_gr (d : Option Nat) : isG (cxMT gl M pu) d = false := by cases d <;> rfl
theorem Tr.rfM {n : Nat} {Q : Ex → St → Prop} {g f m : Nat} {ps : List Nat} {assign body : Code} {e : List (Nat × C)} {h : Hp} {caps : List C} (N : Nat) (xs : Nat → List C) (H : Nat → Hp) (R : Nat → Hp → Prop) (hg : A e g = .fn f caps) (hI : ItrB Tryd.prog gl f caps N xs R ∧ ∀ i,R m (H i))
    (hx : ∀ i,i < N → (xs i).length = ps.length) (hp : ∀ p ∈ ps,p < M) (h0 : h = H 0)
    (hb : ∀ i,i < N → Tr (cxMT gl M pu) (H i).length assign ⟨A (bindL ps (xs i) (nrE e)),H i⟩ fun x s => x = .normal ∧ Tr (cxMT gl M pu) (H i).length body s (RoundQ (H i).length (fun k => k = H (i + 1)) fun x h' => Q x ⟨A e,h'⟩))
    (hd : Q .normal ⟨A e,H N⟩) : Tr (cxM gl M pu) n (.rangeFunc (.tmp g) ps.toArray assign body) ⟨A e,h⟩ Q :=
  Tr.rfB (cx := cxM gl M pu) rfl N xs H hg hI.1 m hI.2 hx hp h0 hb hd
end
attribute [go_sem] cxM_P cxM_N cxM_pu cxM_gr cxMT_P cxMT_N cxMT_pu cxMT_gr
theorem td92 : td Tryd.prog 92 = some ⟨.map 34 4,1,8,[.map none]⟩ := by kernel_rfl
theorem mkm92 : mnewPlan Tryd.prog 92 = some (.mo mnewF) := mnew_eq kt92
theorem mput92 (cx : Cx) (b : Nat) (x : ID) (v : C) : mputPlan cx 92 (.mp b) (.agg (iD x)) v = some (.mo (mputF cx 92 b (keyI x) v)) := mput_eq cx 92 b _ v _ rfl
theorem mlook92 (cx : Cx) (b : Nat) (x : ID) (ok : Bool) : mlookPlan cx 92 (.mp b) (.agg (iD x)) ok = some (.mo (mlookF cx 92 b (keyI x) ok)) := mlook_eq cx 92 b _ _ ok rfl
theorem mdel92 (cx : Cx) (b : Nat) (x : ID) : mdelPlan cx 92 (.mp b) (.agg (iD x)) = some (.mo (mdelF cx 92 b (keyI x))) := mdel_eq cx 92 b _ _ rfl
theorem store_mpW {P : Program} (t : TypeId) (b o m : Nat) (k : Option Nat) : storePlan P t (.bp b o) (.mp m) k = stB (td P t) b o (some [.mp m]) := by
  unfold storePlan stB; cases td P t <;> rfl
theorem oc_nm : (Value.map none).oneCell' = true := rfl
attribute [go_sem] td92 mkm92 mput92 mlook92 mdel92 oc_nm store_mpW
theorem cxP_of {gl : Nat → C} {M : Nat} {pu : Nat → List C → Option C} (hcx : CxOK (cxM gl M pu)) : CxOK (cxP gl M pu) := ⟨hcx.glo,hcx.pu,(fun _ _ _ _ _ h => by cases h),fun _ _ h => by cases h⟩
theorem RowN.m {n : Nat} {h : Hp} {l : List C} (H : RowN n h) (h1 : noRefs 0 (mapC l) = true) : RowN (n + 1) (some (mapC l) :: h) :=
  ⟨by simp [H.len],by rw [noRefH_some,h1,H.nr]; rfl,fun j hj => by
    cases j with
    | zero => left; rw [mp_cons0]; simp [mpL,mapC]
    | succ j =>
      have := H.lv j (by omega)
      rw [at_consS,mp_consS]
      simpa using this⟩
theorem fzCs_map0 (ok : Nat → Bool) (b : Nat) (ys : List C) : fzCs ok b ys (mapC []) = mapC [] := by simp only [mapC,fzCs,fzC]
attribute [go_sem] mpL_mapC fzCs_map0
theorem mapI_nrk (k : Nat) (M : List ID) : noRefs k (mapC (entI M)) = true := by simp only [mapC,noRefs,noRef,entI_nr,Bool.and_self]
attribute [go_sem] mapI_nrk
theorem gt_memI (l : List ID) (i : Nat) (h : i < l.length) : gt l i ∈ l := by simp [gt,List.getD,List.getElem?_eq_getElem h]
theorem mapI_nr (M : List ID) : noRefs 0 (mapC (entI M)) = true := by simp only [mapC,noRefs,noRef,entI_nr,Bool.and_self]
def ordS (M : List ID) : List Psg → List ID × List ID
  | [] => (M,[])
  | p :: l => if p.1 ∈ M then ((ordS (M.erase p.1) l).1,p.1 :: (ordS (M.erase p.1) l).2) else ordS M l
theorem ordS_len : ∀ (M : List ID) (l : List Psg),(ordS M l).2.length ≤ l.length
  | M,[] => Nat.le_refl _
  | M,q :: l => by
    simp only [ordS]
    split
    · have := ordS_len (M.erase q.1) l
      simp only [List.length_cons]; omega
    · have := ordS_len M l
      simp only [List.length_cons]; omega
def insL (l : List ID) : List ID := l.foldl insI []
theorem insL_sn (l : List ID) (i : Nat) (h : i < l.length) : insI (insL (l.take i)) (gt l i) = insL (l.take (i + 1)) := by
  rw [← take_sn l i h]; unfold insL; rw [List.foldl_append]; rfl
theorem ordS_app : ∀ (M : List ID) (l : List Psg) (p : Psg),ordS M (l ++ [p]) = if p.1 ∈ (ordS M l).1 then ((ordS M l).1.erase p.1,(ordS M l).2 ++ [p.1]) else ordS M l
  | M,[],p => by by_cases h : p.1 ∈ M <;> simp [ordS,h]
  | M,q :: l,p => by
    simp only [List.cons_append,ordS]
    split
    · rw [ordS_app (M.erase q.1) l p]
      split <;> simp
    · exact ordS_app M l p
theorem ordS_ok : ∀ (M : List ID) (l : List Psg),OkI M → OkI (ordS M l).1
  | M,[],h => h
  | M,q :: l,h => by
    simp only [ordS]
    split
    · exact ordS_ok (M.erase q.1) l (h.del q.1)
    · exact ordS_ok M l h
theorem insL_ok {l : List ID} (h : ∀ x ∈ l,IdOk x) : OkI (insL l) := by
  have : ∀ (l M : List ID),OkI M → (∀ x ∈ l,IdOk x) → OkI (l.foldl insI M) := fun l => by
    induction l with
    | nil => intro M hM _; exact hM
    | cons x l ih => intro M hM hl; exact ih _ (hM.ins (hl x (List.mem_cons_self ..))) fun y hy => hl y (List.mem_cons_of_mem _ hy)
  exact this l [] OkI.nil h
theorem X_fc28 {p : Prop} (e : p := by intro KZ hZ; simp -implicitDefEqProofs (disch := first | omega | (simp only [go_sem,lA,lD,lT,hT] <;> omega) | decide) only [go_sem,↓reduceIte,Nat.reduceEqDiff,reduceCtorEq,Nat.reduceLT,Nat.reduceBEq,Nat.reduceAdd,h53,ep,c1,hy]; with_reducible exact hZ) : p := e
theorem F_fc28 {p : Prop} (e : p := by simp -implicitDefEqProofs (disch := first | omega | (simp only [go_sem,lA,lD,lT,hT] <;> omega) | decide) only [go_sem,↓reduceIte,Nat.reduceEqDiff,reduceCtorEq]; all_goals (rfl)) : p := e
theorem fc28 {gl : Nat → C} {M : Nat} {pu : Nat → List C → Option C} (hcx : CxOK (cxM gl M pu)) (h53 : ∀ w : Wrk,pu 53 [.agg [sl vC .no w]] = some (.fn 93 [.kp [sl vC .no w]])) (w : Wrk) (l : List ID) (hw : WS w) (hl : ∀ x ∈ l,IdOk x) (hl2 : l.length ≤ 1000000) (hid : ∀ i,i < (rdW w).length → IdOk (gt (rdW w) i).2.1) : FC Tryd.prog gl 28 [.agg [sl vC .no w],sl iD .no l] [] (sl iD .no (ordS (insL l) (alW w)).2) [] := by
 replace hcx := hcx.reN (M := 38)
 refine FC.ofA (cx := cxM gl 38 pu) (rs := [.tmp 4]) rfl Tryd.func28 rfl rfl rfl (by simp only [List.length_cons,List.length_nil]; decide) (by simp only [go_sem]) ?_
 simp only [ini,go_sem]
 have c1 := True.intro
 have hy := True.intro
 have ep := True.intro
 have hT := True.intro
 have hmv := fun (ρ : List Nat) (M : List ID) => mvCs_nr ρ (mapC (entI M)) (mapI_nr M)
 refine Tr.w hcx [] _ [none] rfl rfl rfl ?_ X_fc28
 refine Tr.w hcx [] _ [none] rfl rfl rfl ?_ X_fc28
 refine Tr.seqK fun K1 hK1 => ?_
 refine Tr.f1 hcx 0 [sl vC .no w] ?_
 refine Tr.f1 hcx 1 [.mp 2] ?_
 refine Tr.k [1,2,5] ?_
 refine Tr.m1 hcx [2] ?_
 refine Tr.w hcx [] _ [] rfl rfl rfl ?_ X_fc28
 refine Tr.k [2,5,12,13,14] ?_
 refine Tr.blk ?_
 refine Tr.loopM hcx (α := Nat) (fun a => [(2,?v2_1),(5,?v5_1),(12,?v12_1),(13,?v13_1),(14,.val (nI a))]) (fun a => [some (mapC (entI (insL (l.take a))))]) (fun a => a ≤ l.length) (fun a => l.length - a) (0) (Nat.zero_le _) ?le_1 ?hh_1 ?bd_1
 case hh_1 => exact rfl
 case le_1 => exact LT
 rintro i hi
 refine Tr.w hcx [] _ [] rfl rfl rfl ?_ X_fc28
 refine Tr.seqK fun K2 hK2 => ?_
 refine Tr.cD rfl (fun hc15 => ?_) (fun hc15 => ?_)
 ·
  have ex : IdOk (gt l i) := hl _ (gt_memI l i hc15)
  have hM : OkI (insL (l.take i)) := insL_ok fun x hx => hl x (List.mem_of_mem_take hx)
  have ep := put_I (cx := ⟨Tryd.prog,38,gl,pu,fun _ _ _ => none,fun _ => false,kmW,true⟩) rfl rfl (h := [some (mapC (entI (insL (l.take i)))),some (iD (gt l i))]) (b := 0) rfl hM ex
  refine Tr.skip ?_
  refine hK2 _ ?_
  refine Tr.seqK fun K3 hK3 => ?_
  refine Tr.blk ?_
  refine Tr.w hcx [] _ [none] rfl rfl rfl ?_ X_fc28
  have hy := @ep
  refine Tr.v hcx [] _ [] rfl rfl rfl ?_ X_fc28
  refine hK3 _ ?_
  have hy := True.intro
  refine Tr.v hcx [] _ [] rfl rfl rfl ?_ X_fc28
  first
  | exact ⟨[0],⟨by decide,by decide,by decide⟩,i + 1,⟨(by omega),O1⟩,LM,by simp only [mvH_eq,mvHa_nil,mvHa_cons,hget_0,hget_S,Option.map_some,Option.map_none,mvCs_cl,mvCs_f,mvCs_nil,mvCs_cons,mvC_val,mvC_top,mvC_sl,mvC_gv,mvC_sv,mvC_bp,mvC_agg,mvC_kp,mvGv_some,mvGv_none,mvSv_some,mvSv_none,mvBp_some,mvBp_none,loc_nil,loc_cons,↓reduceIte,Nat.reduceEqDiff,reduceCtorEq,Nat.reduceAdd,Nat.zero_add,Nat.one_ne_zero,Nat.zero_ne_one,mvC_fn,mvC_bt,mvBt_some,mvBt_none,mvC_mp,mvMp_some,mvMp_none,hmv]; rw [insL_sn l _ hc15]⟩
 obtain rfl : i = l.length := by omega
 rw [List.take_length]
 refine Tr.exit ?_
 refine hK1 _ ?_
 refine Tr.w hcx [] _ [none] rfl rfl rfl ?_ X_fc28
 refine Tr.seqK fun K4 hK4 => ?_
 refine Tr.w hcx [] _ [] rfl rfl rfl ?_ X_fc28
 refine Tr.blk ?_
 refine Tr.k [5,8,22] ?_
 refine Tr.bxc 1 0 (sl iD (.own 3) []) _ rfl rfl (CLe_sln rfl) rfl ?_
 simp only [List.set_cons_succ,List.set_cons_zero]
 refine Tr.rfM ((rdW w).length) (xsW w) (fun i => [some (mapC (entI (ordS (insL l) ((alW w).take i)).1)),some [sl iD (.own 3) (ordS (insL l) ((alW w).take i)).2]]) (RowN) rfl (⟨it93 (cxP_of hcx) w hw.1,fun i => (RowN.nil.c (by simp only [noRefs_cons,noRefs_nil,noRef_sl,Bool.and_self]) rfl).m (mapI_nr _)⟩) (fun i hi => rfl) (by decide) (rfl) ?rb_2 ?rd_2
 case rb_2 =>
  intro i hi
  replace hcx := hcx.rnd
  have hMO := @hMOT
  simp only [go_sem]
  have eP := alW_gt w i hi
  have hM : OkI (ordS (insL l) ((alW w).take i)).1 := ordS_ok _ _ (insL_ok hl)
  have hT : (ordS (insL l) ((alW w).take i)).2.length ≤ i := Nat.le_trans (ordS_len _ _) (by rw [List.length_take]; omega)
  have hw2 := hw.2.1
  have ex := hid i hi
  obtain ⟨P,hP⟩ : ∃ P,(gt (rdW w) i).2 = P := ⟨_,rfl⟩
  rw [hP] at ex eP
  rw [hP]
  have hS := ordS_app (insL l) ((alW w).take i) P
  rw [show (alW w).take i ++ [P] = (alW w).take (i + 1) from by rw [← eP]; exact take_sn _ _ (by rw [alW_len]; exact hi)] at hS
  obtain ⟨S,hSS⟩ : ∃ S,ordS (insL l) ((alW w).take i) = S := ⟨_,rfl⟩
  rw [hSS] at hM hS hT
  rw [hSS]
  have ep := And.intro (fun r => look_I (cx := cxMT gl 38 pu) rfl rfl (h := some (mapC (entI S.1)) :: r) (b := 0) rfl hM ex) (fun r => del_I (cx := cxMT gl 38 pu) rfl rfl (h := some (mapC (entI S.1)) :: r) (b := 0) rfl hM ex)
  refine Tr.v hcx [] _ [none] rfl rfl rfl ?_ X_fc28
  refine ⟨rfl,?_⟩
  refine Tr.k [5,8,10] ?_
  refine Tr.blk ?_
  by_cases c1 : P.1 ∈ S.1
  ·
   refine Tr.w hcx [] _ [] rfl rfl rfl ?_ X_fc28
   refine Tr.cT rfl ?_
   refine Tr.w hcx [29] _ [] rfl rfl rfl ?_ X_fc28
   refine Tr.v hcx [] _ [] rfl rfl rfl ?_ X_fc28
   exact RoundQ.c (by simp only [hS,if_pos c1]; rfl)
  refine Tr.w hcx [] _ [] rfl rfl rfl ?_ X_fc28
  refine Tr.cF rfl ?_
  refine Tr.skip ?_
  exact RoundQ.c (by simp only [hS,if_neg c1]; rfl)
 case rd_2 =>
  refine hK4 _ ?_
  rw [List.take_of_length_le (show (alW w).length ≤ (rdW w).length by rw [alW_len]; exact Nat.le_refl _)]
  refine Tr.w hcx [1000037] _ [] rfl rfl rfl ?_ X_fc28
  refine Tr.live [(4,sl iD .no (ordS (insL l) (alW w)).2)] (by simp only [Le_cons,Le_nil,↓A_cons,↓reduceIte,Nat.reduceEqDiff,and_true]; exact CLe.refl _) ?_
  exact Tr.ret F_fc28
end Go.Sx
namespace Go.Sx
open Go.RowKit Go.Proofs
set_option maxRecDepth 100000
set_option maxHeartbeats 8000000
theorem bsA_iD2 (u : TypeDesc) (y : Nat) (a b : ID) : bsA (some ⟨u,3,y,[nI 0,nI 0,nI 0]⟩) 2 [(0,.agg (iD a)),(1,.agg (iD b))] = some (vp (sl iD .full [a,b])) := rfl
theorem rda_iD2 (x y : ID) : rda (iD x ++ iD y) 0 3 = some (.agg (iD x)) := rfl
theorem ixI20 {l : List ID} (h : l.length = 2) : ixL (some ⟨.struct #[Field.mk "By" 3 0 false "" "" 0, Field.mk "Seq" 3 1 false "" "" 8, Field.mk "K" 3 2 false "" "" 16], 3, 24, [nI 0, nI 0, nI 0]⟩) (some 0) 2 (cl iD l) = some (vp (.kp (iD (gt l 0) ++ iD (gt l 1)))) := by
  rcases l with _ | ⟨x,_ | ⟨y,_ | ⟨z,l⟩⟩⟩
  · cases h
  · cases h
  · rfl
  · simp at h
attribute [go_sem] bsA_iD2 rda_iD2
theorem X_fc30 {p : Prop} (e : p := by intro KZ hZ; simp -implicitDefEqProofs (disch := first | omega | (simp only [go_sem,lA,lD,lT] <;> omega) | decide) only [go_sem,↓reduceIte,Nat.reduceEqDiff,reduceCtorEq,Nat.reduceLT,Nat.reduceBEq,Nat.reduceAdd,e28,eq_iD,hO,c1,c2,hy]; with_reducible exact hZ) : p := e
theorem Y_fc30 {p : Prop} (e : p := by intro KZ hZ; simp -implicitDefEqProofs (disch := first | omega | (simp only [go_sem,lA,lD,lT] <;> omega) | decide) only [go_sem,↓reduceIte,Nat.reduceEqDiff,reduceCtorEq,Nat.reduceLT,Nat.reduceBEq,Nat.reduceAdd,e28,eq_iD,hO,c1,c2,hy]; with_reducible refine And.intro ?_ hZ; first | exact rfl | decide) : p := e
theorem F_fc30 {p : Prop} (e : p := by simp -implicitDefEqProofs (disch := first | omega | (simp only [go_sem,lA,lD,lT] <;> omega) | decide) only [go_sem,↓reduceIte,Nat.reduceEqDiff,reduceCtorEq]; all_goals (simp [c1,c2])) : p := e
theorem fc30 {gl : Nat → C} {M : Nat} {pu : Nat → List C → Option C} (hcx : CxOK (cxP gl M pu)) (h28 : ∀ (w : Wrk) (l : List ID),WS w → (∀ x ∈ l,IdOk x) → l.length ≤ 1000000 → (∀ i,i < (rdW w).length → IdOk (gt (rdW w) i).2.1) → pu 28 [.agg [sl vC .no w],sl iD .no l] = some (sl iD .no (ordS (insL l) (alW w)).2)) (w : Wrk) (a b : ID) (hw : WS w) (ha : IdOk a) (hb : IdOk b) (hid : ∀ i,i < (rdW w).length → IdOk (gt (rdW w) i).2.1) : FC Tryd.prog gl 30 [.agg [sl vC .no w],.agg (iD a),.agg (iD b)] [] (.val (.bool (decide ((ordS (insL [a,b]) (alW w)).2.length = 2 ∧ gt (ordS (insL [a,b]) (alW w)).2 0 = a)))) [] := by
 replace hcx := hcx.reN (M := 23)
 refine FC.ofA (cx := cxP gl 23 pu) (rs := [.tmp 6]) rfl Tryd.func30 rfl rfl rfl (by simp only [List.length_cons,List.length_nil]; decide) (by simp only [go_sem]) ?_
 simp only [ini,go_sem]
 have c1 := True.intro
 have c2 := True.intro
 have hy := True.intro
 have e28 := h28 w [a,b] hw (by intro x hx; simp at hx; rcases hx with rfl | rfl <;> assumption) (by simp) hid
 obtain ⟨O,hO⟩ : ∃ O,(ordS (insL [a,b]) (alW w)).2 = O := ⟨_,rfl⟩
 rw [hO]
 rw [hO] at e28
 refine Tr.w hcx [] _ [none,none,none] rfl rfl rfl ?_ X_fc30
 refine Tr.w hcx [1000012] _ [] rfl rfl rfl ?_ X_fc30
 by_cases c1 : O.length = 2
 ·
  by_cases c2 : gt O 0 = a
  ·
   have x20 := ixI20 c1
   have hy := @x20
   refine Tr.wD hcx hMO [1000022] [some 13,some 14,some 15,some 16,some 17,some 18,some 19,some 20,some 21,some 22,some 6] [] rfl rfl rfl rfl ?_ Y_fc30
   exact Tr.ret F_fc30
  have x20 := ixI20 c1
  have hy := @x20
  refine Tr.wD hcx hMO [1000022] [some 13,some 14,some 15,some 16,some 17,some 18,some 19,some 20,some 21,some 22,some 6] [] rfl rfl rfl rfl ?_ Y_fc30
  exact Tr.ret F_fc30
 have x20 := True.intro
 have c2 := True.intro
 have hy := @x20
 refine Tr.wD hcx hMO [1000022] [some 13,some 14,some 15,some 16,some 17,some 18,some 19,some 20,some 21,some 22,some 6] [] rfl rfl rfl rfl ?_ Y_fc30
 exact Tr.ret F_fc30
end Go.Sx
namespace Go.Sx
open Go.RowKit Go.Proofs
set_option maxRecDepth 100000
set_option maxHeartbeats 8000000
theorem id_eq (a b : ID) : (a = b) = (a.1 = b.1 ∧ a.2.1 = b.2.1 ∧ a.2.2 = b.2.2) := by
  obtain ⟨a1,a2,a3⟩ := a; obtain ⟨b1,b2,b3⟩ := b
  simp
theorem ids_ext {a b : List ID} (h : a.length = b.length) (hn : ∀ j,j < a.length → gt a j = gt b j) : a = b := by
  refine List.ext_getElem h fun i h1 h2 => ?_
  have := hn i h1
  simpa [gt,List.getD,List.getElem?_eq_getElem h1,List.getElem?_eq_getElem h2] using this
theorem not_memI {l : List ID} {x : ID} (h : ∀ j,j < l.length → ¬ gt l j = x) : ¬ x ∈ l := fun hx => by
  obtain ⟨j,hj,rfl⟩ := List.getElem_of_mem hx
  exact h j hj (by simp [gt,List.getD,List.getElem?_eq_getElem hj])
theorem X_fc37 {p : Prop} (e : p := by intro KZ hZ; simp -implicitDefEqProofs (disch := first | omega | (simp only [go_sem,lA,lD,lT] <;> omega) | decide) only [go_sem,↓reduceIte,Nat.reduceEqDiff,reduceCtorEq,Nat.reduceLT,Nat.reduceBEq,Nat.reduceAdd,h60,hy]; with_reducible exact hZ) : p := e
theorem Y_fc37 {p : Prop} (e : p := by intro KZ hZ; simp -implicitDefEqProofs (disch := first | omega | (simp only [go_sem,lA,lD,lT] <;> omega) | decide) only [go_sem,↓reduceIte,Nat.reduceEqDiff,reduceCtorEq,Nat.reduceLT,Nat.reduceBEq,Nat.reduceAdd,h60,hy]; with_reducible refine And.intro ?_ hZ; first | exact rfl | decide) : p := e
theorem F_fc37 {p : Prop} (e : p := by simp -implicitDefEqProofs (disch := first | omega | (simp only [go_sem,lA,lD,lT] <;> omega) | decide) only [go_sem,↓reduceIte,Nat.reduceEqDiff,reduceCtorEq]; all_goals (simp [hR])) : p := e
theorem fc37 {gl : Nat → C} {M : Nat} {pu : Nat → List C → Option C} (hcx : CxOK (cxP gl M pu)) (h60 : ∀ a b : ID,pu 60 [.agg (iD a),.agg (iD b)] = some (.val (.bool (decide (a = b))))) (l : List ID) (x : ID) (hl : l.length ≤ 1000000) : FC Tryd.prog gl 37 [sl iD .no l,.agg (iD x)] [] (.val (.bool (decide (x ∈ l)))) [] := by
 replace hcx := hcx.reN (M := 18)
 refine FC.ofA (cx := cxP gl 18 pu) (rs := [.tmp 4]) rfl Tryd.func37 rfl rfl rfl (by simp only [List.length_cons,List.length_nil]; decide) (by simp only [go_sem]) ?_
 simp only [ini,go_sem]
 have hy := True.intro
 refine Tr.w hcx [] _ [none] rfl rfl rfl ?_ X_fc37
 refine Tr.seqK fun K1 hK1 => ?_
 refine Tr.w hcx [] _ [] rfl rfl rfl ?_ X_fc37
 refine Tr.k [0,3,5] ?_
 refine Tr.blk ?_
 refine Tr.loopI (α := Nat) (fun a => [(0,?v0_1),(3,?v3_1),(5,.val (nI a))]) (fun a => [some (iD x)]) (fun a => a ≤ l.length ∧ ∀ j,j < a → ¬ gt l j = x) (fun a => l.length - a) (0) ⟨Nat.zero_le _,fun j hj => by omega⟩ ?le_1 ?hh_1 ?bd_1
 case hh_1 => exact rfl
 case le_1 => exact LT
 rintro i ⟨hi,hn⟩
 refine Tr.seqK fun K2 hK2 => ?_
 refine Tr.w hcx [] _ [] rfl rfl rfl ?_ X_fc37
 refine Tr.cD rfl (fun hc9 => ?_) (fun hc9 => ?_)
 ·
  refine Tr.skip ?_
  refine hK2 _ ?_
  refine Tr.seqK fun K3 hK3 => ?_
  refine Tr.blk ?_
  refine Tr.wD hcx hMO [] _ [] rfl rfl rfl rfl ?_ Y_fc37
  refine Tr.cD rfl (fun hc17 => ?_) (fun hc17 => ?_)
  ·
   have hR : x ∈ l := hc17 ▸ gt_memI l i hc9
   refine Tr.w hcx [] _ [] rfl rfl rfl ?_ X_fc37
   exact Tr.ret F_fc37
  refine Tr.skip ?_
  refine hK3 _ ?_
  refine Tr.v hcx [1000011] _ [] rfl rfl rfl ?_ X_fc37
  exact ⟨i + 1,⟨⟨by omega,fun j hj => (Nat.lt_succ_iff_lt_or_eq.1 hj).elim (hn j) (fun e => by subst e; exact hc17)⟩,O1⟩,LT,rfl⟩
 obtain rfl : i = l.length := by omega
 have hR := not_memI hn
 refine Tr.exit ?_
 refine hK1 _ ?_
 refine Tr.w hcx [] _ [] rfl rfl rfl ?_ X_fc37
 exact Tr.ret F_fc37
theorem X_fc60 {p : Prop} (e : p := by intro KZ hZ; simp -implicitDefEqProofs (disch := first | omega | (simp only [go_sem,lA,lD,lT] <;> omega) | decide) only [go_sem,↓reduceIte,Nat.reduceEqDiff,reduceCtorEq,Nat.reduceLT,Nat.reduceBEq,Nat.reduceAdd,c1,c2,hy]; with_reducible exact hZ) : p := e
theorem F_fc60 {p : Prop} (e : p := by simp -implicitDefEqProofs (disch := first | omega | (simp only [go_sem,lA,lD,lT] <;> omega) | decide) only [go_sem,↓reduceIte,Nat.reduceEqDiff,reduceCtorEq]; all_goals (simp [id_eq,c1,c2])) : p := e
theorem fc60 {gl : Nat → C} {M : Nat} {pu : Nat → List C → Option C} (hcx : CxOK (cxP gl M pu)) (a b : ID) : FC Tryd.prog gl 60 [.agg (iD a),.agg (iD b)] [] (.val (.bool (decide (a = b)))) [] := by
 replace hcx := hcx.reN (M := 24)
 refine FC.ofA (cx := cxP gl 24 pu) (rs := [.tmp 4]) rfl Tryd.func60 rfl rfl rfl (by simp only [List.length_cons,List.length_nil]; decide) (by simp only [go_sem]) ?_
 simp only [ini,go_sem]
 have c1 := True.intro
 have c2 := True.intro
 have hy := True.intro
 refine Tr.w hcx [] _ [none,none] rfl rfl rfl ?_ X_fc60
 by_cases c1 : a.1 = b.1
 ·
  by_cases c2 : a.2.1 = b.2.1
  ·
   skip
   refine Tr.w hcx [1000023] [some 5,some 6,some 7,some 8,some 9,some 10,some 11,some 12,some 13,some 14,some 15,some 16,some 17,some 18,some 19,some 20,some 21,some 22,some 23,some 4] [] rfl rfl rfl ?_ X_fc60
   exact Tr.ret F_fc60
  skip
  refine Tr.w hcx [1000023] [some 5,some 6,some 7,some 8,some 9,some 10,some 11,some 12,some 13,some 14,some 15,some 16,some 17,some 18,some 19,some 20,some 21,some 22,some 23,some 4] [] rfl rfl rfl ?_ X_fc60
  exact Tr.ret F_fc60
 have c2 := True.intro
 refine Tr.w hcx [1000023] [some 5,some 6,some 7,some 8,some 9,some 10,some 11,some 12,some 13,some 14,some 15,some 16,some 17,some 18,some 19,some 20,some 21,some 22,some 23,some 4] [] rfl rfl rfl ?_ X_fc60
 exact Tr.ret F_fc60
theorem X_fc27 {p : Prop} (e : p := by intro KZ hZ; simp -implicitDefEqProofs (disch := first | omega | (simp only [go_sem,lA,lD,lT] <;> omega) | decide) only [go_sem,↓reduceIte,Nat.reduceEqDiff,reduceCtorEq,Nat.reduceLT,Nat.reduceBEq,Nat.reduceAdd,h60,c0,c1,hy]; with_reducible exact hZ) : p := e
theorem Y_fc27 {p : Prop} (e : p := by intro KZ hZ; simp -implicitDefEqProofs (disch := first | omega | (simp only [go_sem,lA,lD,lT] <;> omega) | decide) only [go_sem,↓reduceIte,Nat.reduceEqDiff,reduceCtorEq,Nat.reduceLT,Nat.reduceBEq,Nat.reduceAdd,h60,c0,c1,hy]; with_reducible refine And.intro ?_ hZ; first | exact rfl | decide) : p := e
theorem F_fc27 {p : Prop} (e : p := by simp -implicitDefEqProofs (disch := first | omega | (simp only [go_sem,lA,lD,lT] <;> omega) | decide) only [go_sem,↓reduceIte,Nat.reduceEqDiff,reduceCtorEq]; all_goals (simp [hR])) : p := e
theorem fc27 {gl : Nat → C} {M : Nat} {pu : Nat → List C → Option C} (hcx : CxOK (cxP gl M pu)) (h60 : ∀ a b : ID,pu 60 [.agg (iD a),.agg (iD b)] = some (.val (.bool (decide (a = b))))) (l m : List ID) (ha : l.length ≤ 1000000) (hb : m.length ≤ 1000000) : FC Tryd.prog gl 27 [sl iD .no l,sl iD .no m] [] (.val (.bool (decide (l = m)))) [] := by
 replace hcx := hcx.reN (M := 27)
 refine FC.ofA (cx := cxP gl 27 pu) (rs := [.tmp 4]) rfl Tryd.func27 rfl rfl rfl (by simp only [List.length_cons,List.length_nil]; decide) (by simp only [go_sem]) ?_
 simp only [ini,go_sem]
 have c0 := True.intro
 have c1 := True.intro
 have hy := True.intro
 refine Tr.w hcx [] _ [] rfl rfl rfl ?_ X_fc27
 refine Tr.seqK fun K1 hK1 => ?_
 by_cases c0 : (l.length = m.length) = True
 ·
  have hlm := of_eq_true c0
  refine Tr.w hcx [] _ [] rfl rfl rfl ?_ X_fc27
  refine Tr.cF rfl ?_
  refine Tr.skip ?_
  refine hK1 _ ?_
  refine Tr.seqK fun K2 hK2 => ?_
  refine Tr.w hcx [] _ [] rfl rfl rfl ?_ X_fc27
  refine Tr.k [0,1,5] ?_
  refine Tr.blk ?_
  refine Tr.loopI (α := Nat) (fun a => [(0,?v0_1),(1,?v1_1),(5,.val (nI a))]) (fun a => []) (fun a => a ≤ l.length ∧ ∀ j,j < a → gt l j = gt m j) (fun a => l.length - a) (0) ⟨Nat.zero_le _,fun j hj => by omega⟩ ?le_1 ?hh_1 ?bd_1
  case hh_1 => exact rfl
  case le_1 => exact LT
  rintro i ⟨hi,hn⟩
  refine Tr.seqK fun K3 hK3 => ?_
  refine Tr.w hcx [] _ [] rfl rfl rfl ?_ X_fc27
  refine Tr.cD rfl (fun hc14 => ?_) (fun hc14 => ?_)
  ·
   refine Tr.skip ?_
   refine hK3 _ ?_
   refine Tr.seqK fun K4 hK4 => ?_
   refine Tr.blk ?_
   by_cases c1 : gt l i = gt m i
   ·
    refine Tr.wD hcx hMO [] _ [] rfl rfl rfl rfl ?_ Y_fc27
    refine Tr.cF rfl ?_
    refine Tr.skip ?_
    refine hK4 _ ?_
    refine Tr.v hcx [1000016] _ [] rfl rfl rfl ?_ X_fc27
    exact ⟨i + 1,⟨⟨by omega,fun j hj => (Nat.lt_succ_iff_lt_or_eq.1 hj).elim (hn j) (fun e => by subst e; exact c1)⟩,O1⟩,LT,rfl⟩
   refine Tr.wD hcx hMO [] _ [] rfl rfl rfl rfl ?_ Y_fc27
   refine Tr.cT rfl ?_
   have hR : ¬ l = m := fun h => c1 (by rw [h])
   refine Tr.w hcx [] _ [] rfl rfl rfl ?_ X_fc27
   exact Tr.ret F_fc27
  obtain rfl : i = l.length := by omega
  have hR := ids_ext hlm hn
  refine Tr.exit ?_
  refine hK2 _ ?_
  refine Tr.w hcx [] _ [] rfl rfl rfl ?_ X_fc27
  exact Tr.ret F_fc27
 have c0 : (l.length = m.length) = False := eq_false (fun h => c0 (eq_true h))
 refine Tr.w hcx [] _ [] rfl rfl rfl ?_ X_fc27
 refine Tr.cT rfl ?_
 have hR : ¬ l = m := fun h => of_eq_false c0 (by rw [h])
 refine Tr.w hcx [] _ [] rfl rfl rfl ?_ X_fc27
 exact Tr.ret F_fc27
end Go.Sx
namespace Go.Sx
open Go.RowKit Go.Proofs
set_option maxRecDepth 100000
set_option maxHeartbeats 8000000
theorem psg_eq (a b : Psg) : (a = b) = (a.1 = b.1 ∧ a.2.1 = b.2.1 ∧ a.2.2.1 = b.2.2.1 ∧ a.2.2.2.1 = b.2.2.2.1 ∧ a.2.2.2.2 = b.2.2.2.2) := by
  obtain ⟨a1,a2,a3,a4,a5⟩ := a; obtain ⟨b1,b2,b3,b4,b5⟩ := b
  simp
def pA (V : Vol) (a : Nat) : List Psg := (V.take a).flatMap (·.2)
def pV (w : Wrk) (v : Nat) : List Psg := (w.take v).flatMap fun V => pA V V.length
theorem pA_S (V : Vol) (a : Nat) (h : a < V.length) : pA V (a + 1) = pA V a ++ (gt V a).2 := by
  unfold pA; rw [← take_sn V a h,List.flatMap_append]; simp
theorem pV_S (w : Wrk) (v : Nat) (h : v < w.length) : pV w (v + 1) = pV w v ++ pA (gt w v) (gt w v).length := by
  unfold pV; rw [← take_sn w v h,List.flatMap_append]; simp
theorem rdA_snd (v a : Nat) (l : List Psg) : (rdA v a l).map (·.2) = l := by
  refine List.ext_getElem (by simp [rdA]) fun i h1 h2 => ?_
  simp [rdA,gt,List.getD,List.getElem?_eq_getElem h2]
theorem rdV_snd (v : Nat) (V : Vol) : ∀ a,a ≤ V.length → ((List.range a).flatMap fun a => rdA v a (gt V a).2).map (·.2) = pA V a
  | 0,_ => rfl
  | a + 1,h => by rw [List.range_succ,List.flatMap_append,List.map_append,rdV_snd v V a (by omega),pA_S V a (by omega)]; simp [rdA_snd]
theorem rdW_snd (w : Wrk) : ∀ v,v ≤ w.length → ((List.range v).flatMap fun v => rdV v (gt w v)).map (·.2) = pV w v
  | 0,_ => rfl
  | v + 1,h => by
    rw [List.range_succ,List.flatMap_append,List.map_append,rdW_snd w v (by omega),pV_S w v (by omega)]
    have := rdV_snd v (gt w v) (gt w v).length (Nat.le_refl _)
    simp only [List.flatMap_cons,List.flatMap_nil,List.append_nil]
    exact congrArg _ this
theorem alW_eq (w : Wrk) : alW w = pV w w.length := rdW_snd w _ (Nat.le_refl _)
theorem pV_le (w : Wrk) (v : Nat) : (pV w v).length ≤ (alW w).length := by
  rw [alW_eq]
  unfold pV
  rw [List.take_length]
  conv => rhs; rw [← List.take_append_drop v w]
  rw [List.flatMap_append,List.length_append]; omega
theorem pA_le (V : Vol) (a : Nat) : (pA V a).length ≤ (pA V V.length).length := by
  unfold pA
  rw [List.take_length]
  conv => rhs; rw [← List.take_append_drop a V]
  rw [List.flatMap_append,List.length_append]; omega
theorem pVA_le (w : Wrk) (v a : Nat) (h : v < w.length) : (pV w v).length + (pA (gt w v) a).length ≤ (alW w).length := by
  have h1 := pV_le w (v + 1)
  rw [pV_S w v h,List.length_append] at h1
  have := pA_le (gt w v) a
  omega
theorem X_fc36 {p : Prop} (e : p := by intro KZ hZ; simp -implicitDefEqProofs (disch := first | omega | (simp only [go_sem,lA,lD,lT] <;> omega) | decide) only [go_sem,↓reduceIte,Nat.reduceEqDiff,reduceCtorEq,Nat.reduceLT,Nat.reduceBEq,Nat.reduceAdd,h60,e27,c1,c2,c3,c4,hy]; with_reducible exact hZ) : p := e
theorem F_fc36 {p : Prop} (e : p := by simp -implicitDefEqProofs (disch := first | omega | (simp only [go_sem,lA,lD,lT] <;> omega) | decide) only [go_sem,↓reduceIte,Nat.reduceEqDiff,reduceCtorEq]; all_goals (simp [psg_eq,c1,c2,c3,c4])) : p := e
theorem fc36 {gl : Nat → C} {M : Nat} {pu : Nat → List C → Option C} (hcx : CxOK (cxP gl M pu)) (h60 : ∀ a b : ID,pu 60 [.agg (iD a),.agg (iD b)] = some (.val (.bool (decide (a = b))))) (h27 : ∀ l m : List ID,l.length ≤ 1000000 → m.length ≤ 1000000 → pu 27 [sl iD .no l,sl iD .no m] = some (.val (.bool (decide (l = m))))) (a b : Psg) (ha : a.2.2.2.2.length ≤ 1000000) (hb : b.2.2.2.2.length ≤ 1000000) : FC Tryd.prog gl 36 [.agg (pC a),.agg (pC b)] [] (.val (.bool (decide (a = b)))) [] := by
 replace hcx := hcx.reN (M := 38)
 refine FC.ofA (cx := cxP gl 38 pu) (rs := [.tmp 4]) rfl Tryd.func36 rfl rfl rfl (by simp only [List.length_cons,List.length_nil]; decide) (by simp only [go_sem]) ?_
 simp only [ini,go_sem]
 have c1 := True.intro
 have c2 := True.intro
 have c3 := True.intro
 have c4 := True.intro
 have hy := True.intro
 have e27 := h27 _ _ ha hb
 refine Tr.w hcx [] _ [none,none] rfl rfl rfl ?_ X_fc36
 refine Tr.k [2,3] ?_
 by_cases c1 : a.1 = b.1
 ·
  by_cases c2 : a.2.1 = b.2.1
  ·
   by_cases c3 : a.2.2.1 = b.2.2.1
   ·
    by_cases c4 : a.2.2.2.1 = b.2.2.2.1
    ·
     skip
     refine Tr.w hcx [1000037] [some 5,some 6,some 7,some 8,some 9,some 10,some 11,some 12,some 13,some 14,some 15,some 16,some 17,some 18,some 19,some 20,some 21,some 22,some 23,some 24,some 25,some 26,some 27,some 28,some 29,some 30,some 31,some 32,some 33,some 34,some 35,some 36,some 37,some 4] [] rfl rfl rfl ?_ X_fc36
     refine Tr.k [4] ?_
     exact Tr.ret F_fc36
    skip
    refine Tr.w hcx [1000037] [some 5,some 6,some 7,some 8,some 9,some 10,some 11,some 12,some 13,some 14,some 15,some 16,some 17,some 18,some 19,some 20,some 21,some 22,some 23,some 24,some 25,some 26,some 27,some 28,some 29,some 30,some 31,some 32,some 33,some 34,some 35,some 36,some 37,some 4] [] rfl rfl rfl ?_ X_fc36
    refine Tr.k [4] ?_
    exact Tr.ret F_fc36
   have c4 := True.intro
   refine Tr.w hcx [1000037] [some 5,some 6,some 7,some 8,some 9,some 10,some 11,some 12,some 13,some 14,some 15,some 16,some 17,some 18,some 19,some 20,some 21,some 22,some 23,some 24,some 25,some 26,some 27,some 28,some 29,some 30,some 31,some 32,some 33,some 34,some 35,some 36,some 37,some 4] [] rfl rfl rfl ?_ X_fc36
   refine Tr.k [4] ?_
   exact Tr.ret F_fc36
  have c3 := True.intro
  have c4 := True.intro
  refine Tr.w hcx [1000037] [some 5,some 6,some 7,some 8,some 9,some 10,some 11,some 12,some 13,some 14,some 15,some 16,some 17,some 18,some 19,some 20,some 21,some 22,some 23,some 24,some 25,some 26,some 27,some 28,some 29,some 30,some 31,some 32,some 33,some 34,some 35,some 36,some 37,some 4] [] rfl rfl rfl ?_ X_fc36
  refine Tr.k [4] ?_
  exact Tr.ret F_fc36
 have c2 := True.intro
 have c3 := True.intro
 have c4 := True.intro
 refine Tr.w hcx [1000037] [some 5,some 6,some 7,some 8,some 9,some 10,some 11,some 12,some 13,some 14,some 15,some 16,some 17,some 18,some 19,some 20,some 21,some 22,some 23,some 24,some 25,some 26,some 27,some 28,some 29,some 30,some 31,some 32,some 33,some 34,some 35,some 36,some 37,some 4] [] rfl rfl rfl ?_ X_fc36
 refine Tr.k [4] ?_
 exact Tr.ret F_fc36
theorem X_fc14 {p : Prop} (e : p := by intro KZ hZ; simp -implicitDefEqProofs (disch := first | omega | (simp only [go_sem,lA,lD,lT,hw1,hVl] <;> omega) | decide) only [go_sem,↓reduceIte,Nat.reduceEqDiff,reduceCtorEq,Nat.reduceLT,Nat.reduceBEq,Nat.reduceAdd,hVV,hy]; with_reducible exact hZ) : p := e
theorem F_fc14 {p : Prop} (e : p := by simp -implicitDefEqProofs (disch := first | omega | (simp only [go_sem,lA,lD,lT,hw1,hVl] <;> omega) | decide) only [go_sem,↓reduceIte,Nat.reduceEqDiff,reduceCtorEq]; all_goals (rfl)) : p := e
theorem fc14 {gl : Nat → C} {M : Nat} {pu : Nat → List C → Option C} (hcx : CxOK (cxP gl M pu)) (w : Wrk) (hw : WS w) : FC Tryd.prog gl 14 [.agg [sl vC .no w]] [] (sl pC (.own 7) (alW w)) [] := by
 replace hcx := hcx.reN (M := 37)
 refine FC.ofA (cx := cxP gl 37 pu) (rs := [.tmp 2]) rfl Tryd.func14 rfl rfl rfl (by simp only [List.length_cons,List.length_nil]; decide) (by simp only [go_sem]) ?_
 simp only [ini,go_sem]
 have hy := True.intro
 have hw1 := hw.1.1
 have hal := alW_len w
 have hw2 := hw.2.1
 have hVV := True.intro
 have hVl := True.intro
 refine Tr.w hcx [] _ [none] rfl rfl rfl ?_ X_fc14
 refine Tr.w hcx [] _ [] rfl rfl rfl ?_ X_fc14
 refine Tr.seqK fun K1 hK1 => ?_
 refine Tr.w hcx [] _ [] rfl rfl rfl ?_ X_fc14
 refine Tr.k [1,3,4] ?_
 refine Tr.blk ?_
 refine Tr.loopI (α := Nat) (fun a => [(1,?v1_1),(3,sl pC (.own 7) (pV w a)),(4,.val (nI a))]) (fun a => [some [sl vC .no w]]) (fun a => a ≤ w.length) (fun a => w.length - a) (0) (Nat.zero_le _) ?le_1 ?hh_1 ?bd_1
 case hh_1 => exact rfl
 case le_1 => exact LT
 rintro v hv
 have hp := pV_le w v
 refine Tr.seqK fun K2 hK2 => ?_
 refine Tr.w hcx [] _ [] rfl rfl rfl ?_ X_fc14
 refine Tr.cD rfl (fun hc10 => ?_) (fun hc10 => ?_)
 ·
  obtain ⟨V,hV⟩ : ∃ V,gt w v = V := ⟨_,rfl⟩
  have hVV := hV
  have hVl := hw.1.2.1 v hc10
  have hAl := hw.1.2.2 v
  rw [hV] at hVl hAl
  refine Tr.skip ?_
  refine hK2 _ ?_
  refine Tr.seqK fun K3 hK3 => ?_
  refine Tr.blk ?_
  refine Tr.w hcx [] _ [] rfl rfl rfl ?_ X_fc14
  refine Tr.k [1,3,4,5] ?_
  refine Tr.blk ?_
  refine Tr.loopI (α := Nat) (fun a => [(1,?v1_2),(3,sl pC (.own 7) (pV w v ++ pA V a)),(4,?v4_2),(5,.val (nI a))]) (fun a => [some [sl vC .no w]]) (fun a => a ≤ V.length) (fun a => V.length - a) (0) (Nat.zero_le _) ?le_2 ?hh_2 ?bd_2
  case hh_2 => exact rfl
  case le_2 => (simp only [Le_nil,Le_cons,↓A_cons,↓reduceIte,Nat.reduceEqDiff,CLe_refl,CLe_top,CLe_full,CLe_nil,CLe_own,and_true,true_and]; all_goals (repeat' first | exact CLe.refl _ | exact True.intro | (refine CLe_sln ?_; first | rfl | (simp only [List.take_zero]; done)) | exact CLe_nI (by omega) | exact CLe_int (by omega) | exact CLe_inI (by omega) | exact CLe_nIi (by omega) | with_reducible apply And.intro)); all_goals (first | exact CLe.refl _ | (rw [show pA V 0 = [] from rfl,List.append_nil]; exact CLe.refl _))
  rintro k hk
  have hp2 := pVA_le w v (k + 1) hc10
  rw [hV] at hp2
  refine Tr.seqK fun K4 hK4 => ?_
  refine Tr.w hcx [] _ [] rfl rfl rfl ?_ X_fc14
  refine Tr.cD rfl (fun hc21 => ?_) (fun hc21 => ?_)
  ·
   have hAk := hAl k hc10 hc21
   rw [pA_S V k hc21,List.length_append] at hp2
   refine Tr.skip ?_
   refine hK4 _ ?_
   refine Tr.seqK fun K5 hK5 => ?_
   refine Tr.blk ?_
   refine Tr.v hcx [24,1000035] _ [] rfl rfl rfl ?_ X_fc14
   refine hK5 _ ?_
   refine Tr.k [1,3,4,5] ?_
   refine Tr.v hcx [1000023] _ [] rfl rfl rfl ?_ X_fc14
   refine ⟨k + 1,⟨(by omega),O1⟩,?_,rfl⟩
   (simp only [Le_nil,Le_cons,↓A_cons,↓reduceIte,Nat.reduceEqDiff,CLe_refl,CLe_top,CLe_full,CLe_nil,CLe_own,and_true,true_and]; all_goals (repeat' first | exact CLe.refl _ | exact True.intro | (refine CLe_sln ?_; first | rfl | (simp only [List.take_zero]; done)) | exact CLe_nI (by omega) | exact CLe_int (by omega) | exact CLe_inI (by omega) | exact CLe_nIi (by omega) | with_reducible apply And.intro))
   all_goals (first | (rw [pA_S V k hc21,List.append_assoc]; exact CLe.refl _) | exact CLe.refl _)
  obtain rfl : k = V.length := by omega
  refine Tr.exit ?_
  refine hK3 _ ?_
  refine Tr.v hcx [1000012] _ [] rfl rfl rfl ?_ X_fc14
  refine ⟨v + 1,⟨(by omega),O1⟩,?_,rfl⟩
  (simp only [Le_nil,Le_cons,↓A_cons,↓reduceIte,Nat.reduceEqDiff,CLe_refl,CLe_top,CLe_full,CLe_nil,CLe_own,and_true,true_and]; all_goals (repeat' first | exact CLe.refl _ | exact True.intro | (refine CLe_sln ?_; first | rfl | (simp only [List.take_zero]; done)) | exact CLe_nI (by omega) | exact CLe_int (by omega) | exact CLe_inI (by omega) | exact CLe_nIi (by omega) | with_reducible apply And.intro))
  all_goals (first | (rw [pV_S w v hc10,hV]; exact CLe.refl _) | exact CLe.refl _)
 obtain rfl : v = w.length := by omega
 rw [← alW_eq]
 refine Tr.exit ?_
 refine hK1 _ ?_
 refine Tr.w hcx [1000036] _ [] rfl rfl rfl ?_ X_fc14
 exact Tr.ret F_fc14
end Go.Sx
namespace Go.Sx
open Go.RowKit Go.Proofs
set_option maxRecDepth 100000
set_option maxHeartbeats 8000000
theorem bsA_iDn (y : Nat) (a b c : Nat) : bsA (some ⟨.struct #[Field.mk "By" 3 0 false "" "" 0, Field.mk "Seq" 3 1 false "" "" 8, Field.mk "K" 3 2 false "" "" 16], 3, y, [nI 0, nI 0, nI 0]⟩) 1 [(0, .agg [.val (nI a), .val (nI b), .val (nI c)])] = some (vp (sl iD .full [((a : Int), (b : Int), (c : Int))])) := rfl
attribute [go_sem high] bsA_iDn
def idI (w : Wrk) (m : List Int) (i : Nat) : ID := if aroundI (gt m (2 * i)) ((alW w).length + 2) < (alW w).length then (gt (alW w) (aroundI (gt m (2 * i)) ((alW w).length + 2))).1 else ((atI m (2 * i + 1) 3 : Int),(atI m (2 * i + 1) 10 : Int),0)
def idN (m : List Int) : Nat := min ((m.length + 1) / 2) 12
def idsW (w : Wrk) (m : List Int) : List ID := (List.range (idN m)).map (idI w m)
def idP (w : Wrk) (m : List Int) (a : Nat) : List ID := (List.range a).map (idI w m)
theorem idP_S (w : Wrk) (m : List Int) (a : Nat) : idP w m (a + 1) = idP w m a ++ [idI w m a] := by unfold idP; rw [List.range_succ,List.map_append]; rfl
theorem idP_len (w : Wrk) (m : List Int) (a : Nat) : (idP w m a).length = a := by simp [idP]
theorem idI_T {w : Wrk} {m : List Int} {i : Nat} (h : aroundI (gt m (2 * i)) ((alW w).length + 2) < (alW w).length) : idI w m i = (gt (alW w) (aroundI (gt m (2 * i)) ((alW w).length + 2))).1 := if_pos h
theorem idI_F {w : Wrk} {m : List Int} {i : Nat} (h : ¬ aroundI (gt m (2 * i)) ((alW w).length + 2) < (alW w).length) : idI w m i = ((atI m (2 * i + 1) 3 : Int),(atI m (2 * i + 1) 10 : Int),0) := if_neg h
def formT : List Nat := [0,0,0,1,3,0,2,1]
def manyT : List Nat := [0,0,0,0,1,2]
def refI (l : List Int) (a i : Nat) : ID := if atI l (a + 3 + i) 9 = 8 then (-1,0,0) else (0,(atI l (a + 3 + i) 9 : Int),0)
def refP (l : List Int) (a n : Nat) : List ID := (List.range n).map (refI l a)
theorem refP_S (l : List Int) (a n : Nat) : refP l a (n + 1) = refP l a n ++ [refI l a n] := by unfold refP; rw [List.range_succ,List.map_append]; rfl
theorem refP_len (l : List Int) (a n : Nat) : (refP l a n).length = n := by simp [refP]
def txtP (l : List Int) (a : Nat) : Nat → List UInt8
  | 0 => textT l (a + 2)
  | n + 1 => txtP l a n ++ [32,64]
theorem txtP_len (l : List Int) (a : Nat) : ∀ n,(txtP l a n).length ≤ 72 + 2 * n
  | 0 => (textT_ok l (a + 2)).2.1
  | n + 1 => by
    have := txtP_len l a n
    simp only [txtP,List.length_append,List.length_cons,List.length_nil]; omega
def oneN (l : List Int) (a : Nat) : Nat := gt manyT (atI l (a + 1) 6)
theorem oneN_le (l : List Int) (a : Nat) : oneN l a ≤ 2 := by
  have h := atI_lt l (a + 1) (m := 6) (by decide)
  have := gt_all manyT (fun n => decide (n ≤ 2)) (by decide) _ h
  simpa [oneN] using this
def oneP (l : List Int) (a : Nat) (id : ID) : Psg := (id,((gt formT (atI l a 8) : Nat) : Int),((atI l (a + 1) 8 / 3 : Nat) : Int),txtP l a (oneN l a),refP l a (oneN l a))
theorem lay1s_n (n : Nat) (l : List Nat) (i : Nat) (x : Nat) (r : List (Nat × C)) (h : i < l.length) : lay1s n (cl nC l) ((i,.val (nI x)) :: r) = lay1s n (cl nC (l.set i x)) r := by
  have e := cl_set (f := nC) l i x h
  rw [Nat.mul_one] at e
  have e2 : splice (cl nC l) i [.val (nI x)] = cl nC (l.set i x) := e
  show (if [C.val (nI x)].length = 1 ∧ i + 1 ≤ (cl nC l).length then lay1s n (splice (cl nC l) i [.val (nI x)]) r else none) = _
  rw [if_pos ⟨rfl,by rw [cl_len (f := nC)]; omega⟩,e2]
attribute [go_sem] lay1s_n
theorem layQ_iD7 (pl : List (Nat × Nat)) (x : ID) (a b c d e f g : C) (r : List (Nat × C)) : layQ pl (some (0,3)) (some (iD x)) [a,b,c,d,e,f,g] r = layS pl [.val (.int .i64 x.1),.val (.int .i64 x.2.1),.val (.int .i64 x.2.2),d,e,f,g] r := rfl
attribute [go_sem high] layQ_iD7
theorem formT_mk : sl nC .full (((((((((List.replicate 8 0).set 0 0).set 1 0).set 2 0).set 3 1).set 4 3).set 5 0).set 6 2).set 7 1) = sl nC .full formT := rfl
theorem formT_ln : formT.length = 8 := rfl
theorem manyT_mk : sl nC .full (((((((List.replicate 6 0).set 0 0).set 1 0).set 2 0).set 3 0).set 4 1).set 5 2) = sl nC .full manyT := rfl
theorem manyT_ln : manyT.length = 6 := rfl
theorem bsA_iDm (y : Nat) (a : Int) (b c : Nat) : bsA (some ⟨.struct #[Field.mk "By" 3 0 false "" "" 0, Field.mk "Seq" 3 1 false "" "" 8, Field.mk "K" 3 2 false "" "" 16], 3, y, [nI 0, nI 0, nI 0]⟩) 1 [(0, .agg [.val (.int .i64 a), .val (nI b), .val (nI c)])] = some (vp (sl iD .full [(a, (b : Int), (c : Int))])) := rfl
attribute [go_sem high] bsA_iDm
theorem refI_T {l : List Int} {a i : Nat} (h : atI l (a + 3 + i) 9 = 8) : refI l a i = (-1,0,0) := if_pos h
theorem refI_F {l : List Int} {a i : Nat} (h : ¬ atI l (a + 3 + i) 9 = 8) : refI l a i = (0,(atI l (a + 3 + i) 9 : Int),0) := if_neg h
theorem X_fc67 {p : Prop} (e : p := by intro KZ hZ; simp -implicitDefEqProofs (disch := first | omega | (simp only [go_sem,lA,lD,lT] <;> omega) | decide) only [go_sem,↓reduceIte,Nat.reduceEqDiff,reduceCtorEq,Nat.reduceLT,Nat.reduceBEq,Nat.reduceAdd,hy]; with_reducible exact hZ) : p := e
theorem F_fc67 {p : Prop} (e : p := by simp -implicitDefEqProofs (disch := first | omega | (simp only [go_sem,lA,lD,lT] <;> omega) | decide) only [go_sem,↓reduceIte,Nat.reduceEqDiff,reduceCtorEq]) : p := e
theorem fc67 {gl : Nat → C} {M : Nat} {pu : Nat → List C → Option C} (hcx : CxOK (cxP gl M pu)) : FC Tryd.prog gl 67 [] [] (.agg [.val (.int .i64 (-1)),.val (nI 0),.val (nI 0)]) [] := by
 replace hcx := hcx.reN (M := 2)
 refine FC.ofA (cx := cxP gl 2 pu) (rs := [.cell 0 34]) rfl Tryd.func67 rfl rfl rfl (by simp only [List.length_cons,List.length_nil]; decide) (by simp only [go_sem]) ?_
 simp only [ini,go_sem]
 have hy := True.intro
 refine Tr.w hcx [] _ [none] rfl rfl rfl ?_ X_fc67
 refine Tr.w hcx [] _ [] rfl rfl rfl ?_ X_fc67
 exact Tr.ret F_fc67
theorem X_fc22 {p : Prop} (e : p := by intro KZ hZ; simp -implicitDefEqProofs (disch := first | omega | (simp only [go_sem,lA,lD,lT,hL] <;> omega) | decide) only [go_sem,↓reduceIte,Nat.reduceEqDiff,reduceCtorEq,Nat.reduceLT,Nat.reduceBEq,Nat.reduceAdd,e14,h19,e65,c1,c2,hy]; with_reducible exact hZ) : p := e
theorem F_fc22 {p : Prop} (e : p := by simp -implicitDefEqProofs (disch := first | omega | (simp only [go_sem,lA,lD,lT,hL] <;> omega) | decide) only [go_sem,↓reduceIte,Nat.reduceEqDiff,reduceCtorEq]; all_goals (rfl)) : p := e
theorem fc22 {gl : Nat → C} {M : Nat} {pu : Nat → List C → Option C} (hcx : CxOK (cxP gl M pu)) (h14 : ∀ w : Wrk,WS w → pu 14 [.agg [sl vC .no w]] = some (sl pC (.own 7) (alW w))) (h19 : ∀ (n : Int) (m : Nat),-9223372036854775808 ≤ n ∧ n ≤ 9223372036854775807 ∧ 0 < m ∧ m ≤ 9223372036854775807 → pu 19 [.val (.int .i64 n),.val (nI m)] = some (.val (nI (aroundI n m)))) (h65 : ∀ (l : List Int) (i m : Nat),LI l → i ≤ 1000000 ∧ 0 < m ∧ m ≤ 9223372036854775807 → pu 65 [sl iC .no l,.val (nI i),.val (nI m)] = some (.val (nI (atI l i m)))) (w : Wrk) (m : List Int) (hw : WS w) (hm : LI m) : FC Tryd.prog gl 22 [.agg [sl vC .no w],sl iC .no m] [] (sl iD (.own 3) (idsW w m)) [] := by
 replace hcx := hcx.reN (M := 58)
 refine FC.ofA (cx := cxP gl 58 pu) (rs := [.tmp 4]) rfl Tryd.func22 rfl rfl rfl (by simp only [List.length_cons,List.length_nil]; decide) (by simp only [go_sem]) ?_
 simp only [ini,go_sem]
 have c1 := True.intro
 have c2 := True.intro
 have hy := True.intro
 have e14 := h14 w hw
 have e65 := fun i k h => h65 m i k hm h
 have hL : (alW w).length ≤ 100000 := by rw [alW_len]; exact hw.2.1
 have hN : idN m = min ((m.length + 1) / 2) 12 := rfl
 have hm1 := hm.1
 refine Tr.w hcx [] _ [none] rfl rfl rfl ?_ X_fc22
 refine Tr.w hcx [1000010] _ [] rfl rfl rfl ?_ X_fc22
 refine Tr.w hcx [] _ [] rfl rfl rfl ?_ X_fc22
 refine Tr.seqK fun K1 hK1 => ?_
 refine Tr.w hcx [] _ [] rfl rfl rfl ?_ X_fc22
 refine Tr.k [1,5,6,7] ?_
 refine Tr.blk ?_
 refine Tr.loopI (α := Nat) (fun a => [(1,?v1_1),(5,?v5_1),(6,sl iD (.own 3) (idP w m a)),(7,.val (nI a))]) (fun a => [some [sl vC .no w]]) (fun a => a ≤ idN m) (fun a => 12 - a) (0) (Nat.zero_le _) ?le_1 ?hh_1 ?bd_1
 case hh_1 => exact rfl
 case le_1 => exact LT
 rintro i hi
 have hP := idP_len w m i
 refine Tr.seqK fun K2 hK2 => ?_
 by_cases c1 : 2 * i < m.length
 ·
  by_cases c2 : i < 12
  ·
   have hb := hm.2 (2 * i) c1
   have hk := around_lt (gt m (2 * i)) (m := (alW w).length + 2) (by omega)
   refine Tr.w hcx [] [some 11,some 12,some 13,some 14,some 15,some 16,some 17,some 18,some 19] [] rfl rfl rfl ?_ X_fc22
   refine Tr.cT rfl ?_
   refine Tr.skip ?_
   refine hK2 _ ?_
   refine Tr.seqK fun K3 hK3 => ?_
   refine Tr.blk ?_
   refine Tr.w hcx [1000030] _ [] rfl rfl rfl ?_ X_fc22
   refine Tr.k [1,5,6,7,8] ?_
   refine Tr.w hcx [] _ [] rfl rfl rfl ?_ X_fc22
   refine Tr.cD rfl (fun hc34 => ?_) (fun hc34 => ?_)
   ·
    refine Tr.v hcx [35,1000042] _ [] rfl rfl rfl ?_ X_fc22
    refine hK3 _ ?_
    refine Tr.v hcx [1000021] _ [] rfl rfl rfl ?_ X_fc22
    refine ⟨i + 1,⟨(by omega),O1⟩,?_,rfl⟩
    (simp only [Le_nil,Le_cons,↓A_cons,↓reduceIte,Nat.reduceEqDiff,CLe_refl,CLe_top,CLe_full,CLe_nil,CLe_own,and_true,true_and]; all_goals (repeat' first | exact CLe.refl _ | exact True.intro | (refine CLe_sln ?_; first | rfl | (simp only [List.take_zero]; done)) | exact CLe_nI (by omega) | exact CLe_int (by omega) | exact CLe_inI (by omega) | exact CLe_nIi (by omega) | with_reducible apply And.intro))
    all_goals (first | (rw [idP_S,idI_T hc34]; exact CLe.refl _) | (rw [idP_S,idI_F hc34]; exact CLe.refl _) | exact CLe.refl _)
   refine Tr.v hcx [43,1000056] _ [] rfl rfl rfl ?_ X_fc22
   refine hK3 _ ?_
   refine Tr.k [1,5,6,7] ?_
   refine Tr.v hcx [1000021] _ [] rfl rfl rfl ?_ X_fc22
   refine ⟨i + 1,⟨(by omega),O1⟩,?_,rfl⟩
   (simp only [Le_nil,Le_cons,↓A_cons,↓reduceIte,Nat.reduceEqDiff,CLe_refl,CLe_top,CLe_full,CLe_nil,CLe_own,and_true,true_and]; all_goals (repeat' first | exact CLe.refl _ | exact True.intro | (refine CLe_sln ?_; first | rfl | (simp only [List.take_zero]; done)) | exact CLe_nI (by omega) | exact CLe_int (by omega) | exact CLe_inI (by omega) | exact CLe_nIi (by omega) | with_reducible apply And.intro))
   all_goals (first | (rw [idP_S,idI_T hc34]; exact CLe.refl _) | (rw [idP_S,idI_F hc34]; exact CLe.refl _) | exact CLe.refl _)
  skip
  refine Tr.w hcx [] [some 11,some 12,some 13,some 14,some 15,some 16,some 17,some 18,some 19] [] rfl rfl rfl ?_ X_fc22
  refine Tr.cF rfl ?_
  refine Tr.exit ?_
  refine hK1 _ ?_
  obtain rfl : i = idN m := by omega
  refine Tr.w hcx [1000057] _ [] rfl rfl rfl ?_ X_fc22
  exact Tr.ret F_fc22
 have c2 := True.intro
 refine Tr.w hcx [] [some 11,some 12,some 13,some 14,some 15,some 16,some 17,some 18,some 19] [] rfl rfl rfl ?_ X_fc22
 refine Tr.cF rfl ?_
 refine Tr.exit ?_
 refine hK1 _ ?_
 obtain rfl : i = idN m := by omega
 refine Tr.w hcx [1000057] _ [] rfl rfl rfl ?_ X_fc22
 exact Tr.ret F_fc22
theorem X_fc21 {p : Prop} (e : p := by intro KZ hZ; simp -implicitDefEqProofs (maxSteps := 2000000) (disch := first | omega | (simp only [go_sem,lA,lD,lT,formT_ln,manyT_ln] <;> omega) | decide) only [go_sem,↓reduceIte,Nat.reduceEqDiff,reduceCtorEq,Nat.reduceLT,Nat.reduceBEq,Nat.reduceAdd,h67,e65,e66,formT_mk,manyT_mk,hy]; with_reducible exact hZ) : p := e
theorem Y_fc21 {p : Prop} (e : p := by intro KZ hZ; simp -implicitDefEqProofs (maxSteps := 2000000) (disch := first | omega | (simp only [go_sem,lA,lD,lT,formT_ln,manyT_ln] <;> omega) | decide) only [go_sem,↓reduceIte,Nat.reduceEqDiff,reduceCtorEq,Nat.reduceLT,Nat.reduceBEq,Nat.reduceAdd,h67,e65,e66,formT_mk,manyT_mk,hy]; with_reducible refine And.intro ?_ hZ; first | exact rfl | decide) : p := e
theorem F_fc21 {p : Prop} (e : p := by simp -implicitDefEqProofs (disch := first | omega | (simp only [go_sem,lA,lD,lT,formT_ln,manyT_ln] <;> omega) | decide) only [go_sem,↓reduceIte,Nat.reduceEqDiff,reduceCtorEq]; all_goals (rfl)) : p := e
theorem fc21 {gl : Nat → C} {M : Nat} {pu : Nat → List C → Option C} (hcx : CxOK (cxP gl M pu)) (h65 : ∀ (l : List Int) (i m : Nat),LI l → i ≤ 1000000 ∧ 0 < m ∧ m ≤ 9223372036854775807 → pu 65 [sl iC .no l,.val (nI i),.val (nI m)] = some (.val (nI (atI l i m)))) (h66 : ∀ (l : List Int) (k : Nat),LI l → k ≤ 1000 → pu 66 [sl iC .no l,.val (nI k)] = some (.val (str (textT l k)))) (h67 : pu 67 [] = some (.agg [.val (.int .i64 (-1)),.val (nI 0),.val (nI 0)])) (l : List Int) (k : Nat) (id : ID) (hl : LI l) (hk : k ≤ 900) : FC Tryd.prog gl 21 [sl iC .no l,.val (nI k),.agg (iD id)] [] (.agg (pC (oneP l k id))) [] := by
 replace hcx := hcx.reN (M := 62)
 refine FC.ofA (cx := cxP gl 62 pu) (rs := [.cell 6 37]) rfl Tryd.func21 rfl rfl rfl (by simp only [List.length_cons,List.length_nil]; decide) (by simp only [go_sem]) ?_
 simp only [ini,go_sem]
 have hy := True.intro
 have e65 := fun i m h => h65 l i m hl h
 have e66 := fun k h => h66 l k hl h
 have hA := atI_lt l k (m := 8) (by decide)
 have hB := atI_lt l (k + 1) (m := 6) (by decide)
 have hB8 := atI_lt l (k + 1) (m := 8) (by decide)
 have hN := oneN_le l k
 unfold oneN at hN
 have hl1 := hl.1
 refine Tr.w hcx [] _ [none,none] rfl rfl rfl ?_ X_fc21
 refine Tr.wD hcx hMO [] _ [none] rfl rfl rfl rfl ?_ Y_fc21
 refine Tr.k [0,1,6,7] ?_
 refine Tr.w hcx [1000034] _ [] rfl rfl rfl ?_ X_fc21
 refine Tr.seqK fun K1 hK1 => ?_
 refine Tr.w hcx [] _ [] rfl rfl rfl ?_ X_fc21
 refine Tr.k [0,1,6,7,8,9] ?_
 refine Tr.blk ?_
 refine Tr.k [0,1,6,7,8,9] ?_
 refine Tr.m1 hcx [1,2] ?_
 refine Tr.bxc 1 6 (sl iD (.own 3) []) _ rfl rfl (CLe_sln rfl) rfl ?_
 simp only [List.set_cons_succ,List.set_cons_zero]
 refine Tr.loopI (α := Nat) (fun a => [(0,?v0_1),(1,?v1_1),(6,?v6_1),(7,?v7_1),(8,?v8_1),(9,.val (nI a))]) (fun a => [some [.val (nI 0),.val (nI 0),.val (nI 0),.val (nI 0),.val (nI 0),.val (str []),.val (.slice none 0 0)],some [.val (.int .i64 id.1),.val (.int .i64 id.2.1),.val (.int .i64 id.2.2),.val (nI (gt formT (atI l k 8))),.val (nI (atI l (k + 1) 8 / 3)),.val (str (txtP l k a)),sl iD (.own 3) (refP l k a)]]) (fun a => a ≤ gt manyT (atI l (k + 1) 6)) (fun a => gt manyT (atI l (k + 1) 6) - a) (0) (Nat.zero_le _) ?le_1 ?hh_1 ?bd_1
 case hh_1 => exact rfl
 case le_1 => exact LT
 rintro i hi
 have hP := refP_len l k i
 have hT := txtP_len l k i
 refine Tr.seqK fun K2 hK2 => ?_
 refine Tr.w hcx [] _ [] rfl rfl rfl ?_ X_fc21
 refine Tr.cD rfl (fun hc37 => ?_) (fun hc37 => ?_)
 ·
  refine Tr.skip ?_
  refine hK2 _ ?_
  refine Tr.seqK fun K3 hK3 => ?_
  refine Tr.blk ?_
  refine Tr.w hcx [] _ [] rfl rfl rfl ?_ X_fc21
  refine Tr.w hcx [] _ [none] rfl rfl rfl ?_ X_fc21
  refine Tr.seqK fun K4 hK4 => ?_
  refine Tr.w hcx [] _ [] rfl rfl rfl ?_ X_fc21
  refine Tr.cD rfl (fun hc53 => ?_) (fun hc53 => ?_)
  ·
   refine Tr.v hcx [] _ [] rfl rfl rfl ?_ X_fc21
   refine hK4 _ ?_
   refine Tr.k [0,1,6,7,8,9,10] ?_
   refine Tr.v hcx [56] _ [] rfl rfl rfl ?_ X_fc21
   refine hK3 _ ?_
   refine Tr.k [0,1,6,7,8,9] ?_
   refine Tr.m1 hcx [0,1] ?_
   refine Tr.v hcx [1000039] _ [] rfl rfl rfl ?_ X_fc21
   exact ⟨i + 1,⟨(by omega),O1⟩,LT,by first | (simp only [refP_S,refI_T hc53]; rfl) | (simp only [refP_S,refI_F hc53]; rfl)⟩
  refine Tr.skip ?_
  refine hK4 _ ?_
  refine Tr.k [0,1,6,7,8,9,10] ?_
  refine Tr.v hcx [56] _ [] rfl rfl rfl ?_ X_fc21
  refine hK3 _ ?_
  refine Tr.k [0,1,6,7,8,9] ?_
  refine Tr.m1 hcx [0,1] ?_
  refine Tr.v hcx [1000039] _ [] rfl rfl rfl ?_ X_fc21
  exact ⟨i + 1,⟨(by omega),O1⟩,LT,by first | (simp only [refP_S,refI_T hc53]; rfl) | (simp only [refP_S,refI_F hc53]; rfl)⟩
 obtain rfl : i = gt manyT (atI l (k + 1) 6) := by omega
 refine Tr.exit ?_
 refine hK1 _ ?_
 refine Tr.w hcx [] _ [] rfl rfl rfl ?_ X_fc21
 exact Tr.ret F_fc21
end Go.Sx
namespace Go.Sx
open Go.RowKit Go.Proofs
set_option maxRecDepth 100000
set_option maxHeartbeats 8000000
theorem bsA_aC1 (u : TypeDesc) (y : Nat) (t : List UInt8) (l : List Psg) : bsA (some ⟨u,2,y,[str [],.slice none 0 0]⟩) 1 [(0,.agg [.val (str t),sl pC .no l])] = some (vp (sl aC .full [(t,l)])) := rfl
theorem bsA_vC1 (u : TypeDesc) (y : Nat) (l : Vol) : bsA (some ⟨u,1,y,[.slice none 0 0]⟩) 1 [(0,.agg [sl aC .no l])] = some (vp (sl vC .full [l])) := rfl
theorem wrc_pC3n (x : Psg) (n : Nat) : wrc (pC x) 3 [.val (nI n)] = some (pC (x.1,(n : Int),x.2.2),.val undef) := rfl
attribute [go_sem high] bsA_aC1 bsA_vC1 wrc_pC3n
def psF (p : Psg) (j : Nat) (ps : List Psg) : Psg := if p.2.1 = ((1 : Nat) : Int) ∧ (j = 0 ∨ (gt ps (j - 1)).2.1 = ((2 : Nat) : Int)) then (p.1,((0 : Nat) : Int),p.2.2) else p
def psP (l : List Int) (n : Nat) : Nat → List Psg
  | 0 => []
  | j + 1 => psP l n j ++ [psF (oneP l (9 + 4 * (n + j)) (((0 : Nat) : Int),((n + j : Nat) : Int),((0 : Nat) : Int))) j (psP l n j)]
theorem psP_len (l : List Int) (n : Nat) : ∀ j,(psP l n j).length = j
  | 0 => rfl
  | j + 1 => by simp [psP,psP_len l n j]
def cntP (l : List Int) (i k n : Nat) : Nat := min (1 + atI l (5 + 2 * i + k) 3) (8 - n)
def arP (l : List Int) (i n : Nat) : Nat → List Art × Nat
  | 0 => ([],n)
  | k + 1 => ((arP l i n k).1 ++ [(textT l (3 + i + k),psP l (arP l i n k).2 (cntP l i k (arP l i n k).2))],(arP l i n k).2 + cntP l i k (arP l i n k).2)
theorem arP_len (l : List Int) (i n : Nat) : ∀ k,(arP l i n k).1.length = k
  | 0 => rfl
  | k + 1 => by simp [arP,arP_len l i n k]
theorem arP_le (l : List Int) (i n : Nat) (h : n ≤ 8) : ∀ k,(arP l i n k).2 ≤ 8
  | 0 => h
  | k + 1 => by
    have := arP_le l i n h k
    simp only [arP,cntP]; omega
def voP (l : List Int) : Nat → List Vol × Nat
  | 0 => ([],0)
  | i + 1 => ((voP l i).1 ++ [(arP l i (voP l i).2 (1 + atI l (1 + i) 2)).1],(arP l i (voP l i).2 (1 + atI l (1 + i) 2)).2)
theorem voP_len (l : List Int) : ∀ i,(voP l i).1.length = i
  | 0 => rfl
  | i + 1 => by simp [voP,voP_len l i]
theorem voP_le (l : List Int) : ∀ i,(voP l i).2 ≤ 8
  | 0 => Nat.zero_le _
  | i + 1 => arP_le l i _ (voP_le l i) _
def wkW (l : List Int) : Wrk := (voP l (1 + atI l 0 4 / 3)).1
theorem psF_T {p : Psg} {j : Nat} {ps : List Psg} (h : p.2.1 = ((1 : Nat) : Int)) (h2 : j = 0 ∨ (gt ps (j - 1)).2.1 = ((2 : Nat) : Int)) : psF p j ps = (p.1,((0 : Nat) : Int),p.2.2) := if_pos ⟨h,h2⟩
theorem psF_F {p : Psg} {j : Nat} {ps : List Psg} (h : ¬ (p.2.1 = ((1 : Nat) : Int) ∧ (j = 0 ∨ (gt ps (j - 1)).2.1 = ((2 : Nat) : Int)))) : psF p j ps = p := if_neg h
theorem max0 (n : Nat) : max n 0 = n := Nat.max_eq_left (Nat.zero_le n)
theorem X_fc18 {p : Prop} (e : p := by intro KZ hZ; simp -implicitDefEqProofs (maxSteps := 2000000) (disch := first | omega | (simp only [go_sem,lA,lD,lT,hx1,hx2,hx3,hx4,hx5,hx6] <;> omega) | decide) only [go_sem,↓reduceIte,Nat.reduceEqDiff,reduceCtorEq,Nat.reduceLT,Nat.reduceBEq,Nat.reduceAdd,e65,e66,e21,hPx,max0,c4,c5,c1,c2,c3,hy]; with_reducible exact hZ) : p := e
theorem F_fc18 {p : Prop} (e : p := by simp -implicitDefEqProofs (disch := first | omega | (simp only [go_sem,lA,lD,lT,hx1,hx2,hx3,hx4,hx5,hx6] <;> omega) | decide) only [go_sem,↓reduceIte,Nat.reduceEqDiff,reduceCtorEq]; all_goals (rfl)) : p := e
theorem fc18 {gl : Nat → C} {M : Nat} {pu : Nat → List C → Option C} (hcx : CxOK (cxP gl M pu)) (h65 : ∀ (l : List Int) (i m : Nat),LI l → i ≤ 1000000 ∧ 0 < m ∧ m ≤ 9223372036854775807 → pu 65 [sl iC .no l,.val (nI i),.val (nI m)] = some (.val (nI (atI l i m)))) (h66 : ∀ (l : List Int) (k : Nat),LI l → k ≤ 1000 → pu 66 [sl iC .no l,.val (nI k)] = some (.val (str (textT l k)))) (h21 : ∀ (l : List Int) (k : Nat) (id : ID),LI l → k ≤ 900 → pu 21 [sl iC .no l,.val (nI k),.agg (iD id)] = some (.agg (pC (oneP l k id)))) (l : List Int) (hl : LI l) : FC Tryd.prog gl 18 [sl iC .no l] [] (.agg [sl vC .no (wkW l)]) [] := by
 replace hcx := hcx.reN (M := 104)
 refine FC.ofA (cx := cxP gl 104 pu) (rs := [.cell 2 29]) rfl Tryd.func18 rfl rfl rfl (by simp only [List.length_cons,List.length_nil]; decide) (by simp only [go_sem]) ?_
 simp only [ini,go_sem]
 have c4 := True.intro
 have c5 := True.intro
 have c1 := True.intro
 have c2 := True.intro
 have c3 := True.intro
 have hy := True.intro
 have e65 := fun i m h => h65 l i m hl h
 have e66 := fun k h => h66 l k hl h
 have e21 : ∀ k n : Nat,k ≤ 900 → pu 21 [sl iC .no l,.val (nI k),.agg [.val (nI 0),.val (nI n),.val (nI 0)]] = some (.agg (pC (oneP l k (((0 : Nat) : Int),(n : Int),((0 : Nat) : Int))))) := fun k n h => h21 l k (((0 : Nat) : Int),(n : Int),((0 : Nat) : Int)) hl h
 have hA := atI_lt l 0 (m := 4) (by decide)
 have hx1 := True.intro
 have hx2 := True.intro
 have hx3 := True.intro
 have hx4 := True.intro
 have hx5 := True.intro
 have hx6 := True.intro
 have hPx := True.intro
 refine Tr.w hcx [] _ [none] rfl rfl rfl ?_ X_fc18
 refine Tr.w hcx [] _ [none] rfl rfl rfl ?_ X_fc18
 refine Tr.w hcx [] _ [] rfl rfl rfl ?_ X_fc18
 refine Tr.w hcx [1000017] _ [] rfl rfl rfl ?_ X_fc18
 refine Tr.seqK fun K1 hK1 => ?_
 refine Tr.w hcx [] _ [] rfl rfl rfl ?_ X_fc18
 refine Tr.k [0,2,3,4,5,6] ?_
 refine Tr.blk ?_
 refine Tr.bxc 1 0 (sl vC (.own 1) []) _ rfl rfl (CLe_sln rfl) rfl ?_
 simp only [List.set_cons_succ,List.set_cons_zero]
 refine Tr.loopI (α := Nat) (fun a => [(0,?v0_1),(2,?v2_1),(3,?v3_1),(4,.val (nI (voP l a).2)),(5,?v5_1),(6,.val (nI a))]) (fun a => [some [.val (.slice none 0 0)],some [sl vC (.own 1) (voP l a).1]]) (fun a => a ≤ 1 + atI l 0 4 / 3) (fun a => 1 + atI l 0 4 / 3 - a) (0) (Nat.zero_le _) ?le_1 ?hh_1 ?bd_1
 case hh_1 => exact rfl
 case le_1 => exact LT
 rintro i hi
 have hx1 := voP_len l i
 have hx2 := voP_le l i
 have hB := atI_lt l (1 + i) (m := 2) (by decide)
 refine Tr.seqK fun K2 hK2 => ?_
 refine Tr.w hcx [] _ [] rfl rfl rfl ?_ X_fc18
 refine Tr.cD rfl (fun hc20 => ?_) (fun hc20 => ?_)
 ·
  refine Tr.skip ?_
  refine hK2 _ ?_
  refine Tr.seqK fun K3 hK3 => ?_
  refine Tr.blk ?_
  refine Tr.w hcx [] _ [none] rfl rfl rfl ?_ X_fc18
  refine Tr.w hcx [1000027] _ [] rfl rfl rfl ?_ X_fc18
  refine Tr.seqK fun K4 hK4 => ?_
  refine Tr.w hcx [] _ [] rfl rfl rfl ?_ X_fc18
  refine Tr.k [0,2,3,4,5,6,7,8,9] ?_
  refine Tr.blk ?_
  refine Tr.bxc 2 0 (sl aC (.own 2) []) _ rfl rfl (CLe_sln rfl) rfl ?_
  simp only [List.set_cons_succ,List.set_cons_zero]
  refine Tr.loopI (α := Nat) (fun a => [(0,?v0_2),(2,?v2_2),(3,?v3_2),(4,.val (nI (arP l i (voP l i).2 a).2)),(5,?v5_2),(6,?v6_2),(7,?v7_2),(8,?v8_2),(9,.val (nI a))]) (fun a => [some [.val (.slice none 0 0)],some [sl vC (.own 1) (voP l i).1],some [sl aC (.own 2) (arP l i (voP l i).2 a).1]]) (fun a => a ≤ 1 + atI l (1 + i) 2) (fun a => 1 + atI l (1 + i) 2 - a) (0) (Nat.zero_le _) ?le_2 ?hh_2 ?bd_2
  case hh_2 => exact rfl
  case le_2 => exact LT
  rintro k hk
  have hx3 := arP_len l i (voP l i).2 k
  have hx4 := arP_le l i (voP l i).2 hx2 k
  have hC := atI_lt l (5 + 2 * i + k) (m := 3) (by decide)
  refine Tr.seqK fun K5 hK5 => ?_
  refine Tr.w hcx [] _ [] rfl rfl rfl ?_ X_fc18
  refine Tr.cD rfl (fun hc30 => ?_) (fun hc30 => ?_)
  ·
   refine Tr.skip ?_
   refine hK5 _ ?_
   refine Tr.seqK fun K6 hK6 => ?_
   refine Tr.blk ?_
   refine Tr.w hcx [] _ [none] rfl rfl rfl ?_ X_fc18
   refine Tr.k [0,2,3,4,5,6,7,8,9,10] ?_
   refine Tr.w hcx [1000047] _ [] rfl rfl rfl ?_ X_fc18
   refine Tr.seqK fun K7 hK7 => ?_
   refine Tr.w hcx [] _ [] rfl rfl rfl ?_ X_fc18
   refine Tr.k [0,2,3,4,5,6,7,8,9,10,11,12] ?_
   refine Tr.blk ?_
   have hN : cntP l i k (arP l i (voP l i).2 k).2 = min (1 + atI l (5 + 2 * i + k) 3) (8 - (arP l i (voP l i).2 k).2) := rfl
   refine Tr.bxc 3 1 (sl pC (.own 7) []) _ rfl rfl (CLe_sln rfl) rfl ?_
   simp only [List.set_cons_succ,List.set_cons_zero]
   refine Tr.loopI (α := Nat) (fun a => [(0,?v0_3),(2,?v2_3),(3,?v3_3),(4,.val (nI ((arP l i (voP l i).2 k).2 + a))),(5,?v5_3),(6,?v6_3),(7,?v7_3),(8,?v8_3),(9,?v9_3),(10,?v10_3),(11,?v11_3),(12,.val (nI a))]) (fun a => [some [.val (.slice none 0 0)],some [sl vC (.own 1) (voP l i).1],some [sl aC (.own 2) (arP l i (voP l i).2 k).1],some [.val (str (textT l (3 + i + k))),sl pC (.own 7) (psP l (arP l i (voP l i).2 k).2 a)]]) (fun a => a ≤ cntP l i k (arP l i (voP l i).2 k).2) (fun a => cntP l i k (arP l i (voP l i).2 k).2 - a) (0) (Nat.zero_le _) ?le_3 ?hh_3 ?bd_3
   case hh_3 => exact rfl
   case le_3 => exact LT
   rintro j hj
   have hx5 := psP_len l (arP l i (voP l i).2 k).2 j
   obtain ⟨n,hn⟩ : ∃ n,(arP l i (voP l i).2 k).2 = n := ⟨_,rfl⟩
   refine Tr.seqK fun K8 hK8 => ?_
   by_cases c4 : j < 1 + atI l (5 + 2 * i + k) 3
   ·
    by_cases c5 : (arP l i (voP l i).2 k).2 + j < 8
    ·
     skip
     refine Tr.w hcx [] [some 48,some 49,some 50,some 51,some 52,some 53,some 54] [] rfl rfl rfl ?_ X_fc18
     refine Tr.cT rfl ?_
     refine Tr.skip ?_
     refine hK8 _ ?_
     refine Tr.k [0,2,3,4,5,6,7,8,9,10,11,12] ?_
     refine Tr.seqK fun K9 hK9 => ?_
     refine Tr.blk ?_
     obtain ⟨P,hPP⟩ : ∃ P,oneP l (9 + 4 * ((arP l i (voP l i).2 k).2 + j)) (((0 : Nat) : Int),(((arP l i (voP l i).2 k).2 + j : Nat) : Int),((0 : Nat) : Int)) = P := ⟨_,rfl⟩
     have hPx := hPP
     refine Tr.w hcx [] _ [none] rfl rfl rfl ?_ X_fc18
     refine Tr.k [0,2,3,4,5,6,7,8,9,10,11,12,13] ?_
     refine Tr.seqK fun K10 hK10 => ?_
     by_cases c1 : P.2.1 = ((1 : Nat) : Int)
     ·
      have c1o := c1
      replace c1 := eq_true c1
      by_cases c2 : j = 0
      ·
       have c2o := c2
       replace c2 := eq_true c2
       refine Tr.w hcx [] [some 64,some 65,some 66,some 67,some 68,some 69,some 70,some 71,some 72,some 73,some 74,some 75,some 76,some 77,some 78,some 79,some 80,some 81] [] rfl rfl rfl ?_ X_fc18
       refine Tr.k [0,2,3,4,5,6,7,8,9,10,11,12,13,81] ?_
       refine Tr.cT rfl ?_
       refine Tr.v hcx [] _ [] rfl rfl rfl ?_ X_fc18
       refine hK10 _ ?_
       refine Tr.w hcx [84] _ [] rfl rfl rfl ?_ X_fc18
       refine Tr.v hcx [1000090] _ [] rfl rfl rfl ?_ X_fc18
       refine hK9 _ ?_
       refine Tr.k [0,2,3,4,5,6,7,8,9,10,11,12] ?_
       refine Tr.k [0,2,3,4,5,6,7,8,9,10,11,12] ?_
       refine Tr.m1 hcx [0,1,2,3] ?_
       refine Tr.v hcx [1000056] _ [] rfl rfl rfl ?_ X_fc18
       exact ⟨j + 1,⟨(by omega),O1⟩,LT,by simp only [psP,hPP]; rw [psF_T c1o (by first | exact .inl c2o | exact .inr c3o)] <;> rfl⟩
      have c2o := c2
      replace c2 := eq_false c2
      by_cases c3 : (gt (psP l (arP l i (voP l i).2 k).2 j) (j - 1)).2.1 = ((2 : Nat) : Int)
      ·
       have c3o := c3
       replace c3 := eq_true c3
       refine Tr.w hcx [] [some 64,some 65,some 66,some 67,some 68,some 69,some 70,some 71,some 72,some 73,some 74,some 75,some 76,some 77,some 78,some 79,some 80,some 81] [] rfl rfl rfl ?_ X_fc18
       refine Tr.k [0,2,3,4,5,6,7,8,9,10,11,12,13,81] ?_
       refine Tr.cT rfl ?_
       refine Tr.v hcx [] _ [] rfl rfl rfl ?_ X_fc18
       refine hK10 _ ?_
       refine Tr.w hcx [84] _ [] rfl rfl rfl ?_ X_fc18
       refine Tr.v hcx [1000090] _ [] rfl rfl rfl ?_ X_fc18
       refine hK9 _ ?_
       refine Tr.k [0,2,3,4,5,6,7,8,9,10,11,12] ?_
       refine Tr.k [0,2,3,4,5,6,7,8,9,10,11,12] ?_
       refine Tr.m1 hcx [0,1,2,3] ?_
       refine Tr.v hcx [1000056] _ [] rfl rfl rfl ?_ X_fc18
       exact ⟨j + 1,⟨(by omega),O1⟩,LT,by simp only [psP,hPP]; rw [psF_T c1o (by first | exact .inl c2o | exact .inr c3o)] <;> rfl⟩
      have c3o := c3
      replace c3 := eq_false c3
      refine Tr.w hcx [] [some 64,some 65,some 66,some 67,some 68,some 69,some 70,some 71,some 72,some 73,some 74,some 75,some 76,some 77,some 78,some 79,some 80,some 81] [] rfl rfl rfl ?_ X_fc18
      refine Tr.k [0,2,3,4,5,6,7,8,9,10,11,12,13,81] ?_
      refine Tr.cF rfl ?_
      refine Tr.skip ?_
      refine hK10 _ ?_
      refine Tr.w hcx [84] _ [] rfl rfl rfl ?_ X_fc18
      refine Tr.v hcx [1000090] _ [] rfl rfl rfl ?_ X_fc18
      refine hK9 _ ?_
      refine Tr.k [0,2,3,4,5,6,7,8,9,10,11,12] ?_
      refine Tr.m1 hcx [0,1,2,3] ?_
      refine Tr.v hcx [1000056] _ [] rfl rfl rfl ?_ X_fc18
      exact ⟨j + 1,⟨(by omega),O1⟩,LT,by simp only [psP,hPP]; rw [psF_F (p := P) (j := j) (by rintro ⟨q1,q2⟩; first | exact c1o q1 | exact q2.elim c2o c3o)] <;> rfl⟩
     have c1o := c1
     replace c1 := eq_false c1
     refine Tr.w hcx [] [some 64,some 65,some 66,some 67,some 68,some 69,some 70,some 71,some 72,some 73,some 74,some 75,some 76,some 77,some 78,some 79,some 80,some 81] [] rfl rfl rfl ?_ X_fc18
     refine Tr.k [0,2,3,4,5,6,7,8,9,10,11,12,13,81] ?_
     refine Tr.cF rfl ?_
     refine Tr.skip ?_
     refine hK10 _ ?_
     refine Tr.w hcx [84] _ [] rfl rfl rfl ?_ X_fc18
     refine Tr.v hcx [1000090] _ [] rfl rfl rfl ?_ X_fc18
     refine hK9 _ ?_
     refine Tr.k [0,2,3,4,5,6,7,8,9,10,11,12] ?_
     refine Tr.m1 hcx [0,1,2,3] ?_
     refine Tr.v hcx [1000056] _ [] rfl rfl rfl ?_ X_fc18
     exact ⟨j + 1,⟨(by omega),O1⟩,LT,by simp only [psP,hPP]; rw [psF_F (p := P) (j := j) (by rintro ⟨q1,q2⟩; first | exact c1o q1 | exact q2.elim c2o c3o)] <;> rfl⟩
    skip
    refine Tr.w hcx [] [some 48,some 49,some 50,some 51,some 52,some 53,some 54] [] rfl rfl rfl ?_ X_fc18
    refine Tr.cF rfl ?_
    refine Tr.exit ?_
    refine hK7 _ ?_
    obtain rfl : j = cntP l i k (arP l i (voP l i).2 k).2 := by omega
    refine Tr.v hcx [92] _ [] rfl rfl rfl ?_ X_fc18
    refine hK6 _ ?_
    refine Tr.k [0,2,3,4,5,6,7,8,9] ?_
    refine Tr.k [0,2,3,4,5,6,7,8,9] ?_
    refine Tr.m1 hcx [0,1,2] ?_
    refine Tr.v hcx [1000032] _ [] rfl rfl rfl ?_ X_fc18
    exact ⟨k + 1,⟨(by omega),O1⟩,LT,rfl⟩
   have c5 := True.intro
   refine Tr.w hcx [] [some 48,some 49,some 50,some 51,some 52,some 53,some 54] [] rfl rfl rfl ?_ X_fc18
   refine Tr.cF rfl ?_
   refine Tr.exit ?_
   refine hK7 _ ?_
   obtain rfl : j = cntP l i k (arP l i (voP l i).2 k).2 := by omega
   refine Tr.v hcx [92] _ [] rfl rfl rfl ?_ X_fc18
   refine hK6 _ ?_
   refine Tr.k [0,2,3,4,5,6,7,8,9] ?_
   refine Tr.k [0,2,3,4,5,6,7,8,9] ?_
   refine Tr.m1 hcx [0,1,2] ?_
   refine Tr.v hcx [1000032] _ [] rfl rfl rfl ?_ X_fc18
   exact ⟨k + 1,⟨(by omega),O1⟩,LT,rfl⟩
  refine Tr.exit ?_
  refine hK4 _ ?_
  obtain rfl : k = 1 + atI l (1 + i) 2 := by omega
  refine Tr.v hcx [98] _ [] rfl rfl rfl ?_ X_fc18
  refine hK3 _ ?_
  refine Tr.k [0,2,3,4,5,6] ?_
  refine Tr.m1 hcx [0,1] ?_
  refine Tr.v hcx [1000022] _ [] rfl rfl rfl ?_ X_fc18
  exact ⟨i + 1,⟨(by omega),O1⟩,LT,rfl⟩
 refine Tr.exit ?_
 refine hK1 _ ?_
 obtain rfl : i = 1 + atI l 0 4 / 3 := by omega
 refine Tr.w hcx [] _ [] rfl rfl rfl ?_ X_fc18
 exact Tr.ret F_fc18
end Go.Sx
