/-
   And what follows.
-/
import Derived.Test.YtcpdlhgkdogdjaaDoorPaq
import Derived.Test.YtcpdlhgkdogdjaaDoorPam
set_option linter.unusedSimpArgs false
set_option linter.unusedVariables false
namespace Go.Sx
open Go.RowKit Go.Proofs
set_option maxRecDepth 100000
set_option maxHeartbeats 8000000
theorem Tr.rfN {gl : Nat → C} {M : Nat} {pu : Nat → List C → Option C} {n : Nat} {Q : Ex → St → Prop} {g f m : Nat} {ps : List Nat} {assign body : Code} {e : List (Nat × C)} {h : Hp} {caps : List C} (N : Nat) (xs : Nat → List C) (H : Nat → Hp) (R : Nat → Hp → Prop) (F : Nat → Prop) (hg : A e g = .fn f caps) (hI : ItrB Tryd.prog gl f caps N xs R ∧ ∀ i,R m (H i))
    (hx : ∀ i,i < N → (xs i).length = ps.length) (hp : ∀ p ∈ ps,p < M) (h0 : h = H 0) (hF : F 0)
    (hb : ∀ i,i < N → F i → Tr (cxMT gl M pu) (H i).length assign ⟨A (bindL ps (xs i) (nrE e)),H i⟩ fun x s => x = .normal ∧ Tr (cxMT gl M pu) (H i).length body s (RoundQ (H i).length (fun k => k = H (i + 1) ∧ F (i + 1)) fun x h' => Q x ⟨A e,h'⟩))
    (hd : F N → Q .normal ⟨A e,H N⟩) : Tr (cxM gl M pu) n (.rangeFunc (.tmp g) ps.toArray assign body) ⟨A e,h⟩ Q :=
  Tr.rfI (cx := cxM gl M pu) rfl (fun i k => k = H i ∧ F i) hg (hI.1 m _ fun i k hk => by rw [hk.1]; exact hI.2 i) hx hp ⟨h0,hF⟩ (fun i k hi hk => by obtain ⟨rfl,hk⟩ := hk; rw [nrE_eq,bindL_eq]; exact hb i hi hk) (fun k hk => by obtain ⟨rfl,hk⟩ := hk; exact hd hk)
def ordW (w : Wrk) : Bool := (alW w).all ordP
def idsA (w : Wrk) : List ID := (alW w).map (·.1)
def bfW (w : Wrk) : Nat → Int
  | 0 => 2
  | i + 1 => (gt (rdW w) i).2.2.1
def stdA (w : Wrk) (j : Nat) : Bool := !(decide ((gt (rdW w) j).2.2.1 = 1) && (decide ((gt (rdW w) j).1.2.2 = 0) || decide (bfW w j = 2)))
def stdW (w : Wrk) : Bool := (List.range (rdW w).length).all (stdA w)
def valW (w : Wrk) : Nat := if largeW w = true then 4 else if ordW w = false then 1 else if titW w = false then 1 else if ¬ (idsA w).Nodup then 7 else if stdW w = false then 8 else 0
theorem valW_4 {w : Wrk} (h : largeW w = true) : valW w = 4 := if_pos h
theorem valW_1 {w : Wrk} (h : largeW w = false) (h1 : ordW w = false) : valW w = 1 := by unfold valW; rw [h,h1]; rfl
theorem valW_t {w : Wrk} (h : largeW w = false) (h1 : ordW w = true) (h2 : titW w = false) : valW w = 1 := by unfold valW; rw [h,h1,h2]; rfl
theorem valW_7 {w : Wrk} (h : largeW w = false) (h1 : ordW w = true) (h2 : titW w = true) (h3 : ¬ (idsA w).Nodup) : valW w = 7 := by unfold valW; rw [h,h1,h2,if_pos h3]; rfl
theorem valW_8 {w : Wrk} (h : largeW w = false) (h1 : ordW w = true) (h2 : titW w = true) (h3 : (idsA w).Nodup) (h4 : stdW w = false) : valW w = 8 := by simp [valW,h,h1,h2,h3,h4]
theorem valW_0 {w : Wrk} (h : largeW w = false) (h1 : ordW w = true) (h2 : titW w = true) (h3 : (idsA w).Nodup) (h4 : stdW w = true) : valW w = 0 := by simp [valW,h,h1,h2,h3,h4]
theorem ordW_T {w : Wrk} (h : ∀ j,j < (rdW w).length → ordP (gt (rdW w) j).2 = true) : ordW w = true := all_gt fun j hj => by rw [alW_gt w j (by rw [alW_len] at hj; exact hj)]; exact h j (by rw [alW_len] at hj; exact hj)
theorem ordW_F {w : Wrk} {j : Nat} (hj : j < (rdW w).length) (h : ordP (gt (rdW w) j).2 = false) : ordW w = false := all_gtF (by rw [alW_len]; exact hj) (by rw [alW_gt w j hj]; exact h)
theorem idsA_len (w : Wrk) : (idsA w).length = (rdW w).length := by unfold idsA; rw [List.length_map,alW_len]
theorem idsA_gt (w : Wrk) (i : Nat) (h : i < (rdW w).length) : gt (idsA w) i = (gt (rdW w) i).2.1 := by
  rw [← alW_gt w i h]
  have h2 : i < (alW w).length := by rw [alW_len]; exact h
  simp [idsA,gt,List.getD,List.getElem?_map,List.getElem?_eq_getElem h2]
theorem mem_insL {l : List ID} {x : ID} : x ∈ insL l ↔ x ∈ l := by
  have : ∀ (l M : List ID),x ∈ l.foldl insI M ↔ x ∈ M ∨ x ∈ l := fun l => by
    induction l with
    | nil => intro M; simp
    | cons y l ih =>
      intro M
      rw [List.foldl_cons,ih]
      unfold insI
      split
      · rename_i h
        constructor
        · rintro (h1 | h1)
          · exact .inl h1
          · exact .inr (List.mem_cons_of_mem _ h1)
        · rintro (h1 | h1)
          · exact .inl h1
          · rcases List.mem_cons.1 h1 with rfl | h1
            · exact .inl h
            · exact .inr h1
      · simp only [List.mem_append,List.mem_cons,List.not_mem_nil,or_false]
        constructor
        · rintro ((h1 | h1) | h1)
          · exact .inl h1
          · exact .inr (.inl h1)
          · exact .inr (.inr h1)
        · rintro (h1 | h1 | h1)
          · exact .inl (.inl h1)
          · exact .inl (.inr h1)
          · exact .inr h1
  have h := this l []
  unfold insL
  simpa using h
theorem nodup_F {l : List ID} {i : Nat} (h : i < l.length) (h2 : gt l i ∈ l.take i) : ¬ l.Nodup := by
  intro hn
  have e := take_sn l i h
  have h3 := (List.take_sublist (i + 1) l).nodup hn
  rw [← e,List.nodup_append] at h3
  exact h3.2.2 _ h2 _ (List.mem_singleton.2 rfl) rfl
theorem nodup_S {l : List ID} {i : Nat} (h : i < l.length) (hn : (l.take i).Nodup) (h2 : ¬ gt l i ∈ l.take i) : (l.take (i + 1)).Nodup := by
  rw [← take_sn l i h,List.nodup_append]
  refine ⟨hn,by simp,fun a ha b hb e => ?_⟩
  rw [List.mem_singleton] at hb; subst hb; subst e
  exact h2 ha
theorem stdA_T {w : Wrk} {j : Nat} (h : ¬ ((gt (rdW w) j).2.2.1 = 1 ∧ ((gt (rdW w) j).1.2.2 = 0 ∨ bfW w j = 2))) : stdA w j = true := by
  unfold stdA
  by_cases h1 : (gt (rdW w) j).2.2.1 = 1
  · rw [decide_eq_false (fun e => h ⟨h1,.inl e⟩),decide_eq_false (fun e => h ⟨h1,.inr e⟩)]; simp
  · rw [decide_eq_false h1]; rfl
theorem stdA_F {w : Wrk} {j : Nat} (h : (gt (rdW w) j).2.2.1 = 1) (h2 : (gt (rdW w) j).1.2.2 = 0 ∨ bfW w j = 2) : stdA w j = false := by
  unfold stdA
  rw [decide_eq_true h]
  rcases h2 with h2 | h2 <;> rw [decide_eq_true h2] <;> simp
theorem stdW_T {w : Wrk} (h : ∀ j,j < (rdW w).length → stdA w j = true) : stdW w = true := by
  unfold stdW; rw [List.all_eq_true]; exact fun j hj => h j (List.mem_range.1 hj)
theorem stdW_F {w : Wrk} {j : Nat} (hj : j < (rdW w).length) (h : stdA w j = false) : stdW w = false := by
  unfold stdW; rw [List.all_eq_false]; exact ⟨j,List.mem_range.2 hj,by rw [h]; simp⟩
theorem nrRow3 {w : Wrk} {M : List ID} {r : Hp} {k : Nat} (b : Nat) (cells : List C) (hb : b < 3) (hq : (some [sl vC .no w] :: some [.val (nI 0)] :: some (mapC (entI M)) :: r : Hp)[b]? = some (some cells)) : noRefs k cells = true := by
  rcases b with _ | _ | _ | b
  · cases hq; simp only [noRefs_cons,noRefs_nil,noRef_sl,Bool.and_self]
  · cases hq; rfl
  · cases hq; exact mapI_nrk _ _
  · omega
theorem X_fc12 {p : Prop} (e : p := by intro KZ hZ; simp -implicitDefEqProofs (disch := first | omega | (simp only [go_sem,lA,lD,lT] <;> omega) | decide) only [go_sem,↓reduceIte,Nat.reduceEqDiff,reduceCtorEq,Nat.reduceLT,Nat.reduceBEq,Nat.reduceAdd,e52,h53,e55,e54,ep,hPx,c0,c1,c2,c3,d1,d2,d3,hy]; with_reducible exact hZ) : p := e
theorem F_fc12 {p : Prop} (e : p := by simp -implicitDefEqProofs (disch := first | omega | (simp only [go_sem,lA,lD,lT] <;> omega) | decide) only [go_sem,↓reduceIte,Nat.reduceEqDiff,reduceCtorEq]; all_goals (first | rw [hR] | (rw [hR]; rfl))) : p := e
theorem fc12 {gl : Nat → C} {M : Nat} {pu : Nat → List C → Option C} (hcx : CxOK (cxM gl M pu)) (h52 : ∀ w : Wrk,WS w → pu 52 [.agg [sl vC .no w]] = some (.val (.bool (largeW w)))) (h53 : ∀ w : Wrk,pu 53 [.agg [sl vC .no w]] = some (.fn 93 [.kp [sl vC .no w]])) (h54 : ∀ p : Psg,p.2.2.2.1.length ≤ 1000000 → p.2.2.2.2.length ≤ 1000000 → pu 54 [.agg (pC p)] = some (.val (.bool (ordP p)))) (h55 : ∀ w : Wrk,WB w → (∀ v a,v < w.length → a < (gt w v).length → (gt (gt w v) a).1.length ≤ 1000000) → pu 55 [.agg [sl vC .no w]] = some (.val (.bool (titW w)))) (w : Wrk) (hw : WS w) (ht : ∀ i,i < (rdW w).length → (gt (rdW w) i).2.2.2.2.1.length ≤ 1000000) (htt : ∀ v a,v < w.length → a < (gt w v).length → (gt (gt w v) a).1.length ≤ 1000000) (hid : ∀ i,i < (rdW w).length → IdOk (gt (rdW w) i).2.1) : FC Tryd.prog gl 12 [.agg [sl vC .no w]] [] (.val (nI (valW w))) [] := by
 replace hcx := hcx.reN (M := 51)
 refine FC.ofA (cx := cxM gl 51 pu) (rs := [.cell 2 25]) rfl Tryd.func12 rfl rfl rfl (by simp only [List.length_cons,List.length_nil]; decide) (by simp only [go_sem]) ?_
 simp only [ini,go_sem]
 have c0 := True.intro
 have c1 := True.intro
 have c2 := True.intro
 have c3 := True.intro
 have d1 := True.intro
 have d2 := True.intro
 have d3 := True.intro
 have hy := True.intro
 have e52 := h52 w hw
 have e55 := h55 w hw.1 htt
 have e54 := True.intro
 have ep := True.intro
 have hPx := True.intro
 have hmv := fun (ρ : List Nat) (M : List ID) => mvCs_nr ρ (mapC (entI M)) (mapI_nr M)
 refine Tr.w hcx [] _ [none,none] rfl rfl rfl ?_ X_fc12
 refine Tr.seqK fun K1 hK1 => ?_
 by_cases c0 : largeW w = true
 ·
  skip
  refine Tr.w hcx [] _ [] rfl rfl rfl ?_ X_fc12
  refine Tr.cT rfl ?_
  have hR := valW_4 c0
  refine Tr.w hcx [] _ [] rfl rfl rfl ?_ X_fc12
  exact Tr.ret F_fc12
 replace c0 := (Bool.not_eq_true _).mp c0
 refine Tr.w hcx [] _ [] rfl rfl rfl ?_ X_fc12
 refine Tr.cF rfl ?_
 refine Tr.skip ?_
 refine hK1 _ ?_
 refine Tr.seqK fun K2 hK2 => ?_
 refine Tr.w hcx [] _ [] rfl rfl rfl ?_ X_fc12
 refine Tr.blk ?_
 refine Tr.k [1,2,14] ?_
 refine Tr.rfN ((rdW w).length) (xsW w) (fun i => [some [sl vC .no w],some [.val (nI 0)]]) (RowN) (fun i => ∀ j,j < i → ordP (gt (rdW w) j).2 = true) rfl (⟨it93 (cxP_of hcx) w hw.1,fun i => (RowN.nil.c rfl rfl).c (by simp only [noRefs_cons,noRefs_nil,noRef_sl,Bool.and_self]) rfl⟩) (fun i hi => rfl) (by decide) (rfl) (fun j hj => absurd hj (Nat.not_lt_zero j)) ?rb_1 ?rd_1
 case rb_1 =>
  intro i hi hF
  replace hcx := hcx.rnd
  have hMO := @hMOT
  simp only [go_sem]
  have e54 := h54 _ (ht i hi) (hw.2.2 i hi)
  refine Tr.v hcx [] _ [none] rfl rfl rfl ?_ X_fc12
  refine ⟨rfl,?_⟩
  refine Tr.k [2,4] ?_
  refine Tr.blk ?_
  by_cases c1 : ordP (gt (rdW w) i).2 = true
  ·
   skip
   refine Tr.w hcx [] _ [] rfl rfl rfl ?_ X_fc12
   refine Tr.cF rfl ?_
   refine Tr.skip ?_
   exact RoundQ.c (⟨rfl,fun j hj => (Nat.lt_or_eq_of_le (Nat.le_of_lt_succ hj)).elim (hF j) (fun e => by subst e; exact c1)⟩)
  replace c1 := (Bool.not_eq_true _).mp c1
  refine Tr.w hcx [] _ [] rfl rfl rfl ?_ X_fc12
  refine Tr.cT rfl ?_
  have hR := valW_1 c0 (ordW_F hi c1)
  refine Tr.w hcx [] _ [] rfl rfl rfl ?_ X_fc12
  exact Tr.ret (RoundQ.r F_fc12)
 case rd_1 =>
  intro hF1
  have hO := ordW_T hF1
  refine hK2 _ ?_
  refine Tr.seqK fun K3 hK3 => ?_
  by_cases c2 : titW w = true
  ·
   skip
   refine Tr.w hcx [] _ [] rfl rfl rfl ?_ X_fc12
   refine Tr.cF rfl ?_
   refine Tr.skip ?_
   refine hK3 _ ?_
   refine Tr.w hcx [] _ [none] rfl rfl rfl ?_ X_fc12
   refine Tr.seqK fun K4 hK4 => ?_
   refine Tr.f1 hcx 2 [.mp 3] ?_
   refine Tr.k [1,2,5] ?_
   refine Tr.m1 hcx [0,1,3] ?_
   refine Tr.w hcx [] _ [] rfl rfl rfl ?_ X_fc12
   refine Tr.blk ?_
   refine Tr.k [1,2,5,25] ?_
   refine Tr.rfN ((rdW w).length) (xsW w) (fun i => [some [sl vC .no w],some [.val (nI 0)],some (mapC (entI (insL ((idsA w).take i))))]) (RowN) (fun i => ((idsA w).take i).Nodup) rfl (⟨it93 (cxP_of hcx) w hw.1,fun i => ((RowN.nil.m (mapI_nr _)).c rfl rfl).c (by simp only [noRefs_cons,noRefs_nil,noRef_sl,Bool.and_self]) rfl⟩) (fun i hi => rfl) (by decide) (rfl) (List.nodup_nil) ?rb_2 ?rd_2
   case rb_2 =>
    intro i hi hF
    replace hcx := hcx.rnd
    have hMO := @hMOT
    simp only [go_sem]
    have hIl : i < (idsA w).length := by rw [idsA_len]; exact hi
    have hg := idsA_gt w i hi
    have hM : OkI (insL ((idsA w).take i)) := insL_ok fun x hx => by
      obtain ⟨j,hj,rfl⟩ := List.getElem_of_mem (List.mem_of_mem_take hx)
      have hj2 : j < (rdW w).length := by rw [← idsA_len]; exact hj
      have := hid j hj2
      rw [← idsA_gt w j hj2] at this
      simpa [gt,List.getD,List.getElem?_eq_getElem hj] using this
    have ex := hid i hi
    have hm0 := mem_insL (l := (idsA w).take i) (x := gt (idsA w) i)
    have hS2 := insL_sn (idsA w) i hIl
    have hD := nodup_F hIl
    have hE := nodup_S hIl hF
    obtain ⟨P,hP⟩ : ∃ P,(gt (rdW w) i).2 = P := ⟨_,rfl⟩
    rw [hP] at ex hg
    rw [hP]
    rw [hg] at hm0 hS2 hD hE
    obtain ⟨S,hS⟩ : ∃ S,insL ((idsA w).take i) = S := ⟨_,rfl⟩
    rw [hS] at hM hm0 hS2
    rw [hS]
    have ep := And.intro (fun a b r => look_I (cx := cxMT gl 51 pu) rfl rfl (h := a :: b :: some (mapC (entI S)) :: r) (b := 2) rfl hM ex) (fun a b r => put_I (cx := cxMT gl 51 pu) rfl rfl (h := a :: b :: some (mapC (entI S)) :: r) (b := 2) rfl hM ex)
    refine Tr.v hcx [] _ [none] rfl rfl rfl ?_ X_fc12
    refine ⟨rfl,?_⟩
    refine Tr.k [2,5,7] ?_
    refine Tr.blk ?_
    refine Tr.seqK fun K5 hK5 => ?_
    by_cases c3 : P.1 ∈ S
    ·
     refine Tr.w hcx [] _ [] rfl rfl rfl ?_ X_fc12
     refine Tr.cT rfl ?_
     have hR := valW_7 c0 hO c2 (hD (hm0.1 c3))
     refine Tr.w hcx [] _ [] rfl rfl rfl ?_ X_fc12
     exact Tr.ret (RoundQ.r F_fc12)
    refine Tr.w hcx [] _ [] rfl rfl rfl ?_ X_fc12
    refine Tr.cF rfl ?_
    refine Tr.skip ?_
    refine hK5 _ ?_
    refine Tr.v hcx [] _ [] rfl rfl rfl ?_ X_fc12
    exact RoundQ.c (⟨by simp only [← hS2]; rfl,hE (fun h => c3 (hm0.2 h))⟩) (nrRow3)
   case rd_2 =>
    intro hF2
    have hN : (idsA w).Nodup := by rw [← idsA_len,List.take_length] at hF2; exact hF2
    refine hK4 _ ?_
    refine Tr.w hcx [] _ [none] rfl rfl rfl ?_ X_fc12
    refine Tr.seqK fun K6 hK6 => ?_
    refine Tr.k [1,2,8] ?_
    refine Tr.m1 hcx [0,1,3] ?_
    refine Tr.w hcx [] _ [] rfl rfl rfl ?_ X_fc12
    refine Tr.blk ?_
    refine Tr.k [2,8,36] ?_
    refine Tr.m1 hcx [1,2] ?_
    refine Tr.rfN ((rdW w).length) (xsW w) (fun i => [some [.val (nI 0)],some [.val (.int .i64 (bfW w i))]]) (RowN) (fun i => ∀ j,j < i → stdA w j = true) rfl (⟨it93 (cxP_of hcx) w hw.1,fun i => (RowN.nil.c rfl rfl).c rfl rfl⟩) (fun i hi => rfl) (by decide) (rfl) (fun j hj => absurd hj (Nat.not_lt_zero j)) ?rb_3 ?rd_3
    case rb_3 =>
     intro i hi hF
     replace hcx := hcx.rnd
     have hMO := @hMOT
     simp only [go_sem]
     have hsT := stdA_T (w := w) (j := i)
     have hsF := stdA_F (w := w) (j := i)
     have hbS : bfW w (i + 1) = (gt (rdW w) i).2.2.1 := rfl
     obtain ⟨P,hP⟩ : ∃ P,(gt (rdW w) i).2 = P := ⟨_,rfl⟩
     obtain ⟨B,hB⟩ : ∃ B,bfW w i = B := ⟨_,rfl⟩
     obtain ⟨X,hX⟩ : ∃ X,(gt (rdW w) i).1.2.2 = X := ⟨_,rfl⟩
     rw [hP] at hsT hsF hbS
     rw [hP]
     rw [hB] at hsT hsF
     rw [hB]
     rw [hX] at hsT hsF
     have hPx := And.intro hP hX
     refine Tr.w hcx [] _ [none] rfl rfl rfl ?_ X_fc12
     refine Tr.v hcx [] _ [none] rfl rfl rfl ?_ X_fc12
     refine ⟨rfl,?_⟩
     refine Tr.k [2,8,9,10] ?_
     refine Tr.blk ?_
     refine Tr.seqK fun K7 hK7 => ?_
     by_cases d1 : X = 0
     ·
      have d1o := d1
      replace d1 := eq_true d1
      refine Tr.w hcx [] _ [] rfl rfl rfl ?_ X_fc12
      refine Tr.cT rfl ?_
      refine Tr.v hcx [] _ [] rfl rfl rfl ?_ X_fc12
      refine hK7 _ ?_
      refine Tr.seqK fun K8 hK8 => ?_
      by_cases d2 : P.2.1 = ((1 : Nat) : Int)
      ·
       have d2o := d2
       replace d2 := eq_true d2
       have d3 := True.intro
       refine Tr.w hcx [] [some 42,some 43,some 44,some 45,some 46,some 47,some 48] [] rfl rfl rfl ?_ X_fc12
       refine Tr.cT rfl ?_
       have hR := valW_8 c0 hO c2 hN (stdW_F hi (hsF d2o (.inl d1o)))
       refine Tr.w hcx [] _ [] rfl rfl rfl ?_ X_fc12
       exact Tr.ret (RoundQ.r F_fc12)
      have d2o := d2
      replace d2 := eq_false d2
      have d3 := True.intro
      refine Tr.w hcx [] [some 42,some 43,some 44,some 45,some 46,some 47,some 48] [] rfl rfl rfl ?_ X_fc12
      refine Tr.cF rfl ?_
      refine Tr.skip ?_
      refine hK8 _ ?_
      refine Tr.v hcx [] _ [] rfl rfl rfl ?_ X_fc12
      exact RoundQ.c (⟨by simp only [hbS]; rfl,fun j hj => (Nat.lt_or_eq_of_le (Nat.le_of_lt_succ hj)).elim (hF j) (fun e => by subst e; exact hsT (by rintro ⟨q1,q2⟩; first | exact d2o q1 | exact q2.elim d1o d3o))⟩)
     have d1o := d1
     replace d1 := eq_false d1
     refine Tr.w hcx [] _ [] rfl rfl rfl ?_ X_fc12
     refine Tr.cF rfl ?_
     refine Tr.skip ?_
     refine hK7 _ ?_
     refine Tr.seqK fun K9 hK9 => ?_
     by_cases d2 : P.2.1 = ((1 : Nat) : Int)
     ·
      have d2o := d2
      replace d2 := eq_true d2
      by_cases d3 : B = ((2 : Nat) : Int)
      ·
       have d3o := d3
       replace d3 := eq_true d3
       skip
       refine Tr.w hcx [] [some 42,some 43,some 44,some 45,some 46,some 47,some 48] [] rfl rfl rfl ?_ X_fc12
       refine Tr.cT rfl ?_
       have hR := valW_8 c0 hO c2 hN (stdW_F hi (hsF d2o (.inr d3o)))
       refine Tr.w hcx [] _ [] rfl rfl rfl ?_ X_fc12
       exact Tr.ret (RoundQ.r F_fc12)
      have d3o := d3
      replace d3 := eq_false d3
      skip
      refine Tr.w hcx [] [some 42,some 43,some 44,some 45,some 46,some 47,some 48] [] rfl rfl rfl ?_ X_fc12
      refine Tr.cF rfl ?_
      refine Tr.skip ?_
      refine hK9 _ ?_
      refine Tr.v hcx [] _ [] rfl rfl rfl ?_ X_fc12
      exact RoundQ.c (⟨by simp only [hbS]; rfl,fun j hj => (Nat.lt_or_eq_of_le (Nat.le_of_lt_succ hj)).elim (hF j) (fun e => by subst e; exact hsT (by rintro ⟨q1,q2⟩; first | exact d2o q1 | exact q2.elim d1o d3o))⟩)
     have d2o := d2
     replace d2 := eq_false d2
     have d3 := True.intro
     refine Tr.w hcx [] [some 42,some 43,some 44,some 45,some 46,some 47,some 48] [] rfl rfl rfl ?_ X_fc12
     refine Tr.cF rfl ?_
     refine Tr.skip ?_
     refine hK9 _ ?_
     refine Tr.v hcx [] _ [] rfl rfl rfl ?_ X_fc12
     exact RoundQ.c (⟨by simp only [hbS]; rfl,fun j hj => (Nat.lt_or_eq_of_le (Nat.le_of_lt_succ hj)).elim (hF j) (fun e => by subst e; exact hsT (by rintro ⟨q1,q2⟩; first | exact d2o q1 | exact q2.elim d1o d3o))⟩)
    case rd_3 =>
     intro hF3
     have hR := valW_0 c0 hO c2 hN (stdW_T hF3)
     refine hK6 _ ?_
     refine Tr.w hcx [] _ [] rfl rfl rfl ?_ X_fc12
     exact Tr.ret F_fc12
  replace c2 := (Bool.not_eq_true _).mp c2
  refine Tr.w hcx [] _ [] rfl rfl rfl ?_ X_fc12
  refine Tr.cT rfl ?_
  have hR := valW_t c0 hO c2
  refine Tr.w hcx [] _ [] rfl rfl rfl ?_ X_fc12
  exact Tr.ret F_fc12
end Go.Sx
namespace Go.Sx
open Go.RowKit
structure Mk (P : Program) (gl : Nat → C) (f : Nat) (α : Type) where
  args : α → List C
  r : α → C
  Y : α → Hp
  nr : ∀ a,noRefs 0 (args a) = true
  inj : ∀ a b,args a = args b → r a = r b ∧ Y a = Y b
  fc : ∀ a,FC P gl f (args a) [] (r a) (Y a)
section
variable {P : Program} {gl : Nat → C} {f : Nat} {α : Type}
abbrev MkD (α : Type) := α × {h : Hp // OkH h}
def Mk.enc (S : Mk P gl f α) (x : MkD α) : List C × Hp := (S.args x.1,x.2.1)
def Mk.out (S : Mk P gl f α) (x : MkD α) : C × Hp := (bkC (x.2.1.length + ·) (S.r x.1),x.2.1 ++ shH x.2.1.length (S.Y x.1))
theorem Mk.ij (S : Mk P gl f α) (x y : MkD α) (h : S.enc x = S.enc y) : S.out x = S.out y := by
  obtain ⟨a,k,hk⟩ := x; obtain ⟨b,m,hm⟩ := y
  simp only [Mk.enc,Prod.mk.injEq] at h
  obtain ⟨h1,rfl⟩ := h
  obtain ⟨q1,q2⟩ := S.inj a b h1
  simp only [Mk.out,q1,q2]
noncomputable def Mk.tab (S : Mk P gl f α) (hp : Nat → List C → Hp → Option (C × Hp)) : Nat → List C → Hp → Option (C × Hp) := extH hp f (tabH S.enc S.out)
theorem CxOK.mk1 {km : TypeId → Value → Bool} {pu : Nat → List C → Option C} {hp : Nat → List C → Hp → Option (C × Hp)} {N M : Nat} (hcx : CxOK ⟨P,N,gl,pu,hp,fun _ => false,km,true⟩) (S : Mk P gl f α) :
    CxOK ⟨P,M,gl,pu,S.tab hp,fun _ => false,km,true⟩ := CxOK.extH hcx fun x => by
  obtain ⟨a,pre,hpre⟩ := x
  have h := FC.pre (S.fc a) pre hpre (fun o ho => by cases ho) (S.nr a) (fun o ho => by cases ho) (Nat.zero_le _) hcx.glo
  rw [bks_nr _ _ (S.nr a),show shH pre.length ([] : Hp) = [] from rfl,List.append_nil] at h
  exact h
theorem Mk.look (S : Mk P gl f α) (hp : Nat → List C → Hp → Option (C × Hp)) (a : α) (pre : Hp) (h1 : OkH pre) :
    S.tab hp f (S.args a) pre = some (bkC (pre.length + ·) (S.r a),pre ++ shH pre.length (S.Y a)) :=
  (extH_hit _ _).trans (tabH_enc S.ij (a,⟨pre,h1⟩))
theorem Mk.miss (S : Mk P gl f α) (hp : Nat → List C → Hp → Option (C × Hp)) {g : Nat} (h : g ≠ f) (xs : List C) (k : Hp) : S.tab hp g xs k = hp g xs k := extH_miss h xs k
end
end Go.Sx
namespace Go.Sx
open Go.RowKit Go.Proofs
set_option maxRecDepth 100000
set_option maxHeartbeats 8000000
theorem wrz7_3 (a b c d e f g x y z : C) : wrc [a,b,c,d,e,f,g] 0 [x,y,z] = some ([x,y,z,d,e,f,g],.val undef) := rfl
attribute [go_sem high] wrz7_3
theorem bsG37_3 (u : TypeDesc) (y : Nat) (a0 a1 a2 a3 a4 a5 a6 b0 b1 b2 b3 b4 b5 b6 c0 c1 c2 c3 c4 c5 c6 : C) : bsG 37 (some ⟨u,7,y,[nI 0,nI 0,nI 0,nI 0,nI 0,str [],.slice none 0 0]⟩) 3 [(0,.agg [a0,a1,a2,a3,a4,a5,a6]),(1,.agg [b0,b1,b2,b3,b4,b5,b6]),(2,.agg [c0,c1,c2,c3,c4,c5,c6])] = some (.ap none (7,37) 3 fun _ => some [a0.noR,a1.noR,a2.noR,a3.noR,a4.noR,a5.noR,a6.noR,b0.noR,b1.noR,b2.noR,b3.noR,b4.noR,b5.noR,b6.noR,c0.noR,c1.noR,c2.noR,c3.noR,c4.noR,c5.noR,c6.noR]) := rfl
theorem bsG48_1 (u : TypeDesc) (y : Nat) (a b : C) : bsG 48 (some ⟨u,2,y,[str [],.slice none 0 0]⟩) 1 [(0,.agg [a,b])] = some (.ap none (2,48) 1 fun _ => some [a.noR,b.noR]) := rfl
theorem bsG46_1 (u : TypeDesc) (y : Nat) (a : C) : bsG 46 (some ⟨u,1,y,[.slice none 0 0]⟩) 1 [(0,.agg [a])] = some (.ap none (1,46) 1 fun _ => some [a.noR]) := rfl
attribute [go_sem high] bsG37_3 bsG48_1 bsG46_1
def tKing : List UInt8 := [116,104,101,32,107,105,110,103,32,64]
def tLyre : List UInt8 := [97,32,108,121,114,101]
def tRome : List UInt8 := [114,111,109,101]
def tOdes : List UInt8 := [79,100,101,115]
def exPs : List Psg := [((0,0,0),0,0,tKing,[(0,1,0)]),((0,1,0),1,0,tLyre,[]),((0,2,0),2,0,tRome,[])]
theorem X_fc64 {p : Prop} (e : p := by intro KZ hZ; simp -implicitDefEqProofs (disch := first | omega | (simp only [go_sem,lA,lD,lT] <;> omega) | decide) only [go_sem,↓reduceIte,Nat.reduceEqDiff,reduceCtorEq,Nat.reduceLT,Nat.reduceBEq,Nat.reduceAdd,hy]; with_reducible exact hZ) : p := e
theorem F_fc64 {p : Prop} (e : p := by simp -implicitDefEqProofs (disch := first | omega | (simp only [go_sem,lA,lD,lT] <;> omega) | decide) only [go_sem,↓reduceIte,Nat.reduceEqDiff,reduceCtorEq]; all_goals (rfl)) : p := e
theorem fc64 {gl : Nat → C} {M : Nat} {pu : Nat → List C → Option C} (hcx : CxOK (cxP gl M pu)) : FC Tryd.prog gl 64 [] [] (.agg [.gv 3 1 (1,46)]) [some [.gv 3 1 (1,46)],some (cl pC exPs),some [.val (str tOdes),.gv 1 3 (7,37)],some [.gv 2 1 (2,48)]] := by
 replace hcx := hcx.reN (M := 16)
 refine FC.ofH (cx := cxP gl 16 pu) (rs := [.cell 0 29]) rfl Tryd.func64 rfl rfl rfl (by simp only [List.length_cons,List.length_nil]; decide) ?_
 simp only [ini,go_sem]
 have hy := True.intro
 refine Tr.w hcx [] _ [none] rfl rfl rfl ?_ X_fc64
 refine Tr.wG hcx [9] [1000009] _ [] rfl rfl rfl ?_ X_fc64
 refine Tr.wG hcx [12,14] [] _ [] rfl rfl rfl ?_ X_fc64
 refine Tr.bxc 1 6 (sl iD .no [(0,1,0)]) _ rfl rfl (CLe.full ..) rfl ?_
 refine Tr.bxc 1 13 (sl iD .no []) _ rfl rfl (CLe_sln rfl) rfl ?_
 refine Tr.bxc 1 20 (sl iD .no []) _ rfl rfl (CLe_sln rfl) rfl ?_
 simp only [List.set_cons_succ,List.set_cons_zero]
 exact Tr.ret F_fc64
end Go.Sx
namespace Go.Sx
open Go.RowKit Go.Proofs
set_option maxRecDepth 100000
set_option maxHeartbeats 8000000
noncomputable def cxR (gl : Nat → C) (M : Nat) (pu : Nat → List C → Option C) (hp : Nat → List C → Hp → Option (C × Hp)) : Cx := ⟨Tryd.prog,M,gl,pu,hp,fun _ => false,kmW,true⟩
section
variable {gl : Nat → C} {M : Nat} {pu : Nat → List C → Option C} {hp : Nat → List C → Hp → Option (C × Hp)}
theorem cxR_P : (cxR gl M pu hp).P = Tryd.prog := rfl
theorem cxR_N : (cxR gl M pu hp).N = M := rfl
theorem cxR_pu : (cxR gl M pu hp).pu = pu := rfl
theorem cxR_hp : (cxR gl M pu hp).hp = hp := rfl
theorem cxR_gn (g : Nat) (az : List C) (o : Option (C × Hp)) : callR (cxR gl M pu hp) g az none o = some (.call g az) := rfl
theorem cxR_gr (d : Option Nat) : isG (cxR gl M pu hp) d = false := by cases d <;> rfl
end
theorem hMOR {gl : Nat → C} {M : Nat} {pu : Nat → List C → Option C} {hp : Nat → List C → Hp → Option (C × Hp)} : (cxR gl M pu hp).P.follows .mixedOrders = true := hMO (gl := gl) (M := M) (pu := pu)
attribute [go_sem] cxR_gn cxR_P cxR_N cxR_pu cxR_hp cxR_gr
theorem rdW1 (t : List UInt8) (ps : List Psg) : rdW [[(t,ps)]] = rdA 0 0 ps := by
  show ([0] : List Nat).flatMap (fun v => ([0] : List Nat).flatMap fun a => rdA v a ps) = _
  simp
def OkOne (ps : List Psg) : Prop := ps.length ≤ 1000 ∧ ∀ i,i < ps.length → (gt ps i).2.2.2.1.length ≤ 1000 ∧ (gt ps i).2.2.2.2.length ≤ 1000 ∧ IdOk (gt ps i).1
theorem OkOne.rd {t : List UInt8} {ps : List Psg} (h : OkOne ps) : (rdW [[(t,ps)]]).length = ps.length ∧ ∀ i,i < ps.length → (gt (rdW [[(t,ps)]]) i).2 = gt ps i := by
  rw [rdW1,rdA_len]
  exact ⟨rfl,fun i hi => by rw [rdA_gt 0 0 ps i hi]⟩
theorem OkOne.wb {t : List UInt8} {ps : List Psg} (h : OkOne ps) : WB [[(t,ps)]] := by
  refine ⟨by show 1 < _; decide,fun v hv => ?_,fun v a hv ha => ?_⟩
  · obtain rfl : v = 0 := by simpa using hv
    show 1 < _; decide
  · obtain rfl : v = 0 := by simpa using hv
    obtain rfl : a = 0 := by have : a < 1 := ha; omega
    show ps.length < _
    have := h.1; omega
theorem OkOne.ws {t : List UInt8} {ps : List Psg} (h : OkOne ps) : WS [[(t,ps)]] := by
  have hr := h.rd (t := t)
  refine ⟨h.wb,by rw [hr.1]; have := h.1; omega,fun i hi => ?_⟩
  rw [hr.1] at hi
  rw [hr.2 i hi]; have := (h.2 i hi).2.1; omega
theorem OkOne.tx {t : List UInt8} {ps : List Psg} (h : OkOne ps) : ∀ i,i < (rdW [[(t,ps)]]).length → (gt (rdW [[(t,ps)]]) i).2.2.2.2.1.length ≤ 1000000 := fun i hi => by
  have hr := h.rd (t := t)
  rw [hr.1] at hi
  rw [hr.2 i hi]; have := (h.2 i hi).1; omega
theorem OkOne.id {t : List UInt8} {ps : List Psg} (h : OkOne ps) : ∀ i,i < (rdW [[(t,ps)]]).length → IdOk (gt (rdW [[(t,ps)]]) i).2.1 := fun i hi => by
  have hr := h.rd (t := t)
  rw [hr.1] at hi
  rw [hr.2 i hi]; exact (h.2 i hi).2.2
theorem OkOne.tt {t : List UInt8} {ps : List Psg} (h : t.length ≤ 1000) : ∀ v a,v < [[(t,ps)]].length → a < (gt [[(t,ps)]] v).length → (gt (gt [[(t,ps)]] v) a).1.length ≤ 1000000 := fun v a hv ha => by
  obtain rfl : v = 0 := by simpa using hv
  obtain rfl : a = 0 := by have : a < 1 := ha; omega
  show t.length ≤ _; omega
def lessP : List Psg := [((0,0,0),0,0,tKing,[]),((0,1,0),1,0,tLyre,[]),((0,2,0),2,0,tRome,[])]
def firstP : List Psg := [((0,1,0),1,0,tLyre,[]),((0,2,0),2,0,tRome,[])]
def behP : List Psg := [((0,0,0),2,0,tKing,[(0,1,0)]),((0,1,0),1,0,tLyre,[]),((0,2,0),2,0,tRome,[])]
def twP : List Psg := [((0,0,0),0,0,tKing,[(0,1,0)]),((0,1,0),1,0,tLyre,[]),((0,0,0),2,0,tRome,[])]
def okOne (ps : List Psg) : Bool := decide (ps.length ≤ 1000) && ps.all fun p => decide (p.2.2.2.1.length ≤ 1000) && decide (p.2.2.2.2.length ≤ 1000) && okI p.1
theorem OkOne.of {ps : List Psg} (h : okOne ps = true) : OkOne ps := by
  unfold okOne at h
  rw [Bool.and_eq_true,decide_eq_true_iff] at h
  refine ⟨h.1,fun i hi => ?_⟩
  have := gt_all ps _ h.2 i hi
  simp only [Bool.and_eq_true,decide_eq_true_iff] at this
  refine ⟨this.1.1,this.1.2,?_⟩
  have h3 := this.2
  unfold okI at h3
  rw [decide_eq_true_iff] at h3
  refine ⟨⟨?_,?_⟩,⟨?_,?_⟩,?_,?_⟩ <;> omega
theorem ok_ex : OkOne exPs := .of (by decide +kernel)
theorem ok_le : OkOne lessP := .of (by decide +kernel)
theorem ok_fi : OkOne firstP := .of (by decide +kernel)
theorem ok_be : OkOne behP := .of (by decide +kernel)
theorem ok_tw : OkOne twP := .of (by decide +kernel)
theorem v_ex : valW [[(tOdes,exPs)]] = 0 := by decide +kernel
theorem v_le : valW [[(tOdes,lessP)]] = 1 := by decide +kernel
theorem v_fi : valW [[(tOdes,firstP)]] = 8 := by decide +kernel
theorem v_be : valW [[(tOdes,behP)]] = 8 := by decide +kernel
theorem v_tw : valW [[(tOdes,twP)]] = 7 := by decide +kernel
theorem f_ex : fnd [[(tOdes,exPs)]] (0,1,0) = ((0,0,1),true) := by decide +kernel
theorem o_ex : (ordS (insL [(0,2,0),(5,5,5),(0,0,0)]) (alW [[(tOdes,exPs)]])).2 = [(0,0,0),(0,2,0)] := by decide +kernel
theorem b_ex : (ordS (insL [(0,0,0),(0,2,0)]) (alW [[(tOdes,exPs)]])).2 = [(0,0,0),(0,2,0)] := by decide +kernel
theorem b_ex2 : (ordS (insL [(0,2,0),(0,2,0)]) (alW [[(tOdes,exPs)]])).2 = [(0,2,0)] := by decide +kernel
theorem bsA_iD3n (y : Nat) (a b c d e f g h i : Nat) : bsA (some ⟨.struct #[Field.mk "By" 3 0 false "" "" 0, Field.mk "Seq" 3 1 false "" "" 8, Field.mk "K" 3 2 false "" "" 16], 3, y, [nI 0, nI 0, nI 0]⟩) 3 [(0, .agg [.val (nI a), .val (nI b), .val (nI c)]), (1, .agg [.val (nI d), .val (nI e), .val (nI f)]), (2, .agg [.val (nI g), .val (nI h), .val (nI i)])] = some (vp (sl iD .full [((a : Int), (b : Int), (c : Int)), ((d : Int), (e : Int), (f : Int)), ((g : Int), (h : Int), (i : Int))])) := rfl
theorem bsA_iD2n (y : Nat) (a b c d e f : Nat) : bsA (some ⟨.struct #[Field.mk "By" 3 0 false "" "" 0, Field.mk "Seq" 3 1 false "" "" 8, Field.mk "K" 3 2 false "" "" 16], 3, y, [nI 0, nI 0, nI 0]⟩) 2 [(0, .agg [.val (nI a), .val (nI b), .val (nI c)]), (1, .agg [.val (nI d), .val (nI e), .val (nI f)])] = some (vp (sl iD .full [((a : Int), (b : Int), (c : Int)), ((d : Int), (e : Int), (f : Int))])) := rfl
attribute [go_sem high] bsA_iD3n bsA_iD2n
theorem eqC_53 (d : Nat) (x1 x2 x3 y1 y2 y3 : Nat) : eqC Tryd.prog (d + 2) 53 (.agg [.val (nI x1),.val (nI x2),.val (nI x3)]) (.agg [.val (nI y1),.val (nI y2),.val (nI y3)]) = some (decide (x1 = y1 ∧ x2 = y2 ∧ x3 = y3)) := by
  have hn : ∀ a b : Nat,eqC Tryd.prog (d + 1) 3 (.val (nI a)) (.val (nI b)) = some (decide (a = b)) := fun a b => by
    have := eqC_int Tryd.prog d td3 a b
    rw [nI,nI,this]; congr 1; rw [decide_eq_decide]; omega
  unfold eqC
  rw [td53]
  simp only []
  rw [td3]
  simp only [C.agg?]
  show (match eqC Tryd.prog (d + 1) 3 (.val (nI x1)) (.val (nI y1)) with | some true => _ | r => r) = _
  rw [hn]
  by_cases h1 : x1 = y1
  · rw [decide_eq_true h1]
    show (match eqC Tryd.prog (d + 1) 3 (.val (nI x2)) (.val (nI y2)) with | some true => _ | r => r) = _
    rw [hn]
    by_cases h2 : x2 = y2
    · rw [decide_eq_true h2]
      show (match eqC Tryd.prog (d + 1) 3 (.val (nI x3)) (.val (nI y3)) with | some true => _ | r => r) = _
      rw [hn]
      by_cases h3 : x3 = y3
      · rw [decide_eq_true h3]; simp [eqEs,h1,h2,h3]
      · rw [decide_eq_false h3]; simp [h3]
    · rw [decide_eq_false h2]; simp [h2]
  · rw [decide_eq_false h1]; simp [h1]
theorem eq53 (op : BinOp) (x1 x2 x3 y1 y2 y3 : Nat) : binPlan Tryd.prog op 53 (.agg [.val (nI x1),.val (nI x2),.val (nI x3)]) (.agg [.val (nI y1),.val (nI y2),.val (nI y3)]) = eqR op (decide (x1 = y1 ∧ x2 = y2 ∧ x3 = y3)) := eqPlan_some Tryd.prog op (by kernel_rfl) (eqC_53 7 x1 x2 x3 y1 y2 y3)
attribute [go_sem] eq53
theorem wrcX6 : wrc (cl pC exPs) 6 [.val (.slice none 0 0)] = some ((cl pC exPs).set 6 (.val (.slice none 0 0)),.val undef) := rfl
theorem wrcX3 : wrc (cl pC exPs) 3 [.val (nI 2)] = some (cl pC behP,.val undef) := rfl
theorem wrcX14 : wrc (cl pC exPs) (2 * 7) [.val (nI 0),.val (nI 0),.val (nI 0)] = some (cl pC twP,.val undef) := rfl
theorem less_e : ((cl pC exPs).set 6 (.val (.slice none 0 0))).set 6 (sl iD .no []) = cl pC lessP := rfl
attribute [go_sem high] wrcX6 wrcX3 wrcX14
theorem fz_p (l : List Psg) (h : 3 = l.length) : fzGv (cl pC l) 3 (7,37) = sl pC .no l := fzGv_cl pC 37 l 3 h
theorem fz_a (t : List UInt8) (l : List Psg) : fzGv [.val (str t),sl pC .no l] 1 (2,48) = sl aC .no [(t,l)] := rfl
theorem fz_v (l : List Art) : fzGv [sl aC .no l] 1 (1,46) = sl vC .no [l] := rfl
theorem X_fc17 {p : Prop} (e : p := by intro KZ hZ; simp -implicitDefEqProofs (disch := first | omega | (simp only [go_sem,lA,lD,lT] <;> omega) | decide) only [go_sem,↓reduceIte,Nat.reduceEqDiff,reduceCtorEq,Nat.reduceLT,Nat.reduceBEq,Nat.reduceAdd,n64,e64,e32,e28,e25,e27,e30a,e30b,e12a,e12b,e12c,e12d,e12e,hy]; with_reducible exact hZ) : p := e
theorem Y_fc17 {p : Prop} (e : p := by intro KZ hZ; simp -implicitDefEqProofs (disch := first | omega | (simp only [go_sem,lA,lD,lT] <;> omega) | decide) only [go_sem,↓reduceIte,Nat.reduceEqDiff,reduceCtorEq,Nat.reduceLT,Nat.reduceBEq,Nat.reduceAdd,n64,e64,e32,e28,e25,e27,e30a,e30b,e12a,e12b,e12c,e12d,e12e,hy]; with_reducible refine And.intro ?_ hZ; first | exact rfl | decide) : p := e
theorem F_fc17 {p : Prop} (e : p := by simp -implicitDefEqProofs (disch := first | omega | (simp only [go_sem,lA,lD,lT] <;> omega) | decide) only [go_sem,↓reduceIte,Nat.reduceEqDiff,reduceCtorEq]; all_goals (rfl)) : p := e
theorem fc17 {gl : Nat → C} {M : Nat} {pu : Nat → List C → Option C} {hp : Nat → List C → Hp → Option (C × Hp)} (hcx : CxOK (cxR gl M pu hp)) (n64 : ∀ xs : List C,pu 64 xs = none) (hq64 : ∀ pre : Hp,OkH pre → hp 64 [] pre = some (.agg [.gv (pre.length + 3) 1 (1,46)],pre ++ [some [.gv (pre.length + 3) 1 (1,46)],some (cl pC exPs),some [.val (str tOdes),.gv (pre.length + 1) 3 (7,37)],some [.gv (pre.length + 2) 1 (2,48)]])) (h27 : ∀ l m : List ID,l.length ≤ 1000000 → m.length ≤ 1000000 → pu 27 [sl iD .no l,sl iD .no m] = some (.val (.bool (decide (l = m))))) (h28 : ∀ (w : Wrk) (l : List ID),WS w → (∀ x ∈ l,IdOk x) → l.length ≤ 1000000 → (∀ i,i < (rdW w).length → IdOk (gt (rdW w) i).2.1) → pu 28 [.agg [sl vC .no w],sl iD .no l] = some (sl iD .no (ordS (insL l) (alW w)).2)) (h30 : ∀ (w : Wrk) (a b : ID),WS w → IdOk a → IdOk b → (∀ i,i < (rdW w).length → IdOk (gt (rdW w) i).2.1) → pu 30 [.agg [sl vC .no w],.agg (iD a),.agg (iD b)] = some (.val (.bool (decide ((ordS (insL [a,b]) (alW w)).2.length = 2 ∧ gt (ordS (insL [a,b]) (alW w)).2 0 = a))))) (h12 : ∀ w : Wrk,WS w → (∀ i,i < (rdW w).length → (gt (rdW w) i).2.2.2.2.1.length ≤ 1000000) → (∀ v a,v < w.length → a < (gt w v).length → (gt (gt w v) a).1.length ≤ 1000000) → (∀ i,i < (rdW w).length → IdOk (gt (rdW w) i).2.1) → pu 12 [.agg [sl vC .no w]] = some (.val (nI (valW w)))) (h32 : ∀ (w : Wrk) (id : ID),WB w → pu 32 [.agg [sl vC .no w],.agg (iD id)] = some (.tup [.agg [.val (nI (fnd w id).1.1),.val (nI (fnd w id).1.2.1),.val (nI (fnd w id).1.2.2)],.val (.bool (fnd w id).2)])) (h25 : ∀ w : Wrk,WS w → nA w w.length ≤ 1000000 → pu 25 [.agg [sl vC .no w]] = some (.agg [.val (nI w.length),.val (nI (nA w w.length)),.val (nI (alW w).length)])) : FC Tryd.prog gl 17 [] [] (.val (.bool true)) [] := by
 replace hcx := hcx.reN (M := 140)
 refine FC.ofA (cx := cxR gl 140 pu hp) (rs := [.tmp 0]) rfl Tryd.func17 rfl rfl rfl (by simp only [List.length_cons,List.length_nil]; decide) (by simp only [go_sem]) ?_
 simp only [ini,go_sem]
 have hy := True.intro
 have hMO := @hMOR
 have e64 := hq64 [none] (OkH.cons rfl OkH.nil)
 simp only [List.length_cons,List.length_nil,List.cons_append,List.nil_append,Nat.zero_add,Nat.reduceAdd] at e64
 have e32 : pu 32 [.agg [sl vC .no [[(tOdes,exPs)]]],.agg [.val (nI 0),.val (nI 1),.val (nI 0)]] = some (.tup [.agg [.val (nI 0),.val (nI 0),.val (nI 1)],.val (.bool true)]) := by have h := h32 [[(tOdes,exPs)]] (0,1,0) (OkOne.wb ok_ex); rw [f_ex] at h; exact h
 have e28 : pu 28 [.agg [sl vC .no [[(tOdes,exPs)]]],sl iD .no [(((0 : Nat) : Int),((2 : Nat) : Int),((0 : Nat) : Int)),(((5 : Nat) : Int),((5 : Nat) : Int),((5 : Nat) : Int)),(((0 : Nat) : Int),((0 : Nat) : Int),((0 : Nat) : Int))]] = some (sl iD .no [(((0 : Nat) : Int),((0 : Nat) : Int),((0 : Nat) : Int)),(((0 : Nat) : Int),((2 : Nat) : Int),((0 : Nat) : Int))]) := by have h := h28 [[(tOdes,exPs)]] [(0,2,0),(5,5,5),(0,0,0)] (OkOne.ws ok_ex) (by intro x hx; simp only [List.mem_cons,List.not_mem_nil,or_false] at hx; rcases hx with rfl | rfl | rfl <;> exact ⟨⟨by decide,by decide⟩,⟨by decide,by decide⟩,by decide,by decide⟩) (by decide) (OkOne.id ok_ex); rw [o_ex] at h; exact h
 have e25 : pu 25 [.agg [sl vC .no [[(tOdes,exPs)]]]] = some (.agg [.val (nI 1),.val (nI 1),.val (nI 3)]) := h25 [[(tOdes,exPs)]] (OkOne.ws ok_ex) (by decide)
 have e27 : pu 27 [sl iD .no [(((0 : Nat) : Int),((0 : Nat) : Int),((0 : Nat) : Int)),(((0 : Nat) : Int),((2 : Nat) : Int),((0 : Nat) : Int))],sl iD .no [(((0 : Nat) : Int),((0 : Nat) : Int),((0 : Nat) : Int)),(((0 : Nat) : Int),((2 : Nat) : Int),((0 : Nat) : Int))]] = some (.val (.bool true)) := (h27 [(((0 : Nat) : Int),((0 : Nat) : Int),((0 : Nat) : Int)),(((0 : Nat) : Int),((2 : Nat) : Int),((0 : Nat) : Int))] _ (by decide) (by decide)).trans (by rw [decide_eq_true rfl])
 have e30a : pu 30 [.agg [sl vC .no [[(tOdes,exPs)]]],.agg [.val (nI 0),.val (nI 0),.val (nI 0)],.agg [.val (nI 0),.val (nI 2),.val (nI 0)]] = some (.val (.bool true)) := by have h := h30 [[(tOdes,exPs)]] (0,0,0) (0,2,0) (OkOne.ws ok_ex) ⟨⟨by decide,by decide⟩,⟨by decide,by decide⟩,by decide,by decide⟩ ⟨⟨by decide,by decide⟩,⟨by decide,by decide⟩,by decide,by decide⟩ (OkOne.id ok_ex); rw [b_ex] at h; exact h
 have e30b : pu 30 [.agg [sl vC .no [[(tOdes,exPs)]]],.agg [.val (nI 0),.val (nI 2),.val (nI 0)],.agg [.val (nI 0),.val (nI 2),.val (nI 0)]] = some (.val (.bool false)) := by have h := h30 [[(tOdes,exPs)]] (0,2,0) (0,2,0) (OkOne.ws ok_ex) ⟨⟨by decide,by decide⟩,⟨by decide,by decide⟩,by decide,by decide⟩ ⟨⟨by decide,by decide⟩,⟨by decide,by decide⟩,by decide,by decide⟩ (OkOne.id ok_ex); rw [b_ex2] at h; exact h
 have e12a : pu 12 [.agg [sl vC .no [[(tOdes,exPs)]]]] = some (.val (nI 0)) := by rw [h12 [[(tOdes,exPs)]] (OkOne.ws ok_ex) (OkOne.tx ok_ex) (OkOne.tt (by decide)) (OkOne.id ok_ex),v_ex]
 have e12b : pu 12 [.agg [sl vC .no [[(tOdes,lessP)]]]] = some (.val (nI 1)) := by rw [h12 [[(tOdes,lessP)]] (OkOne.ws ok_le) (OkOne.tx ok_le) (OkOne.tt (by decide)) (OkOne.id ok_le),v_le]
 have e12c : pu 12 [.agg [sl vC .no [[(tOdes,firstP)]]]] = some (.val (nI 8)) := by rw [h12 [[(tOdes,firstP)]] (OkOne.ws ok_fi) (OkOne.tx ok_fi) (OkOne.tt (by decide)) (OkOne.id ok_fi),v_fi]
 have e12d : pu 12 [.agg [sl vC .no [[(tOdes,behP)]]]] = some (.val (nI 8)) := by rw [h12 [[(tOdes,behP)]] (OkOne.ws ok_be) (OkOne.tx ok_be) (OkOne.tt (by decide)) (OkOne.id ok_be),v_be]
 have e12e : pu 12 [.agg [sl vC .no [[(tOdes,twP)]]]] = some (.val (nI 7)) := by rw [h12 [[(tOdes,twP)]] (OkOne.ws ok_tw) (OkOne.tx ok_tw) (OkOne.tt (by decide)) (OkOne.id ok_tw),v_tw]
 refine Tr.w hcx [] _ [] rfl rfl rfl ?_ X_fc17
 refine Tr.w hcx [] _ [none] rfl rfl rfl ?_ X_fc17
 refine Tr.f1 hcx 2 (cl pC exPs) ?_
 simp only [fz_p exPs rfl]
 refine Tr.f1 hcx 3 [.val (str tOdes),sl pC .no exPs] ?_
 simp only [fz_a]
 refine Tr.f1 hcx 4 [sl aC .no [(tOdes,exPs)]] ?_
 simp only [fz_v]
 refine Tr.k [1] ?_
 refine Tr.m1 hcx [0] ?_
 refine Tr.f1 hcx 0 [sl vC .no [[(tOdes,exPs)]]] ?_
 refine Tr.m1 hcx [] ?_
 refine Tr.w hcx [1000015] _ [none] rfl rfl rfl ?_ X_fc17
 refine Tr.w hcx [1000021] _ [] rfl rfl rfl ?_ X_fc17
 refine Tr.k [1,2,3,4] ?_
 refine Tr.seqK fun K1 hK1 => ?_
 refine Tr.w hcx [] [some 22,some 23,some 24,some 25,some 26,some 27,some 28,some 29,some 30,some 31,some 32,some 33,some 34,some 35,some 36,some 37,some 38,some 39,some 40,some 41,some 42,some 43,some 44,some 45,some 46,some 47,some 48,some 49,some 50,some 51,some 52,some 53,some 54,some 55,some 56,some 57] [] rfl rfl rfl ?_ X_fc17
 refine Tr.k [1,57] ?_
 refine Tr.cF rfl ?_
 refine Tr.skip ?_
 refine hK1 _ ?_
 refine Tr.k [1] ?_
 refine Tr.m1 hcx [] ?_
 refine Tr.w hcx [] _ [none] rfl rfl rfl ?_ X_fc17
 refine Tr.w hcx [] _ [] rfl rfl rfl ?_ X_fc17
 refine Tr.bxc 2 6 (sl iD .no []) ((cl pC exPs).set 6 (.val (.slice none 0 0))) rfl rfl (CLe_sln rfl) rfl ?_
 simp only [less_e]
 simp only [List.set_cons_succ,List.set_cons_zero]
 refine Tr.f1 hcx 2 (cl pC lessP) ?_
 simp only [fz_p lessP rfl]
 refine Tr.f1 hcx 3 [.val (str tOdes),sl pC .no lessP] ?_
 simp only [fz_a]
 refine Tr.f1 hcx 4 [sl aC .no [(tOdes,lessP)]] ?_
 simp only [fz_v]
 refine Tr.k [1,5] ?_
 refine Tr.m1 hcx [0] ?_
 refine Tr.f1 hcx 0 [sl vC .no [[(tOdes,lessP)]]] ?_
 refine Tr.m1 hcx [] ?_
 refine Tr.w hcx [] _ [none] rfl rfl rfl ?_ X_fc17
 refine Tr.k [1,5,6] ?_
 refine Tr.f1 hcx 2 (cl pC exPs) ?_
 simp only [fz_p exPs rfl]
 refine Tr.wD hcx hMO [] _ [] rfl rfl rfl rfl ?_ Y_fc17
 simp only [show exPs.drop 1 = firstP from rfl]
 refine Tr.f1 hcx 3 [.val (str tOdes),sl pC .no firstP] ?_
 simp only [fz_a]
 refine Tr.f1 hcx 4 [sl aC .no [(tOdes,firstP)]] ?_
 simp only [fz_v]
 refine Tr.k [1,5,6] ?_
 refine Tr.m1 hcx [0] ?_
 refine Tr.f1 hcx 0 [sl vC .no [[(tOdes,firstP)]]] ?_
 refine Tr.m1 hcx [] ?_
 refine Tr.w hcx [] _ [none] rfl rfl rfl ?_ X_fc17
 refine Tr.k [1,5,6,7] ?_
 refine Tr.w hcx [] _ [] rfl rfl rfl ?_ X_fc17
 refine Tr.f1 hcx 2 (cl pC behP) ?_
 simp only [fz_p behP rfl]
 refine Tr.f1 hcx 3 [.val (str tOdes),sl pC .no behP] ?_
 simp only [fz_a]
 refine Tr.f1 hcx 4 [sl aC .no [(tOdes,behP)]] ?_
 simp only [fz_v]
 refine Tr.k [1,5,6,7] ?_
 refine Tr.m1 hcx [0] ?_
 refine Tr.f1 hcx 0 [sl vC .no [[(tOdes,behP)]]] ?_
 refine Tr.m1 hcx [] ?_
 refine Tr.w hcx [] _ [none] rfl rfl rfl ?_ X_fc17
 refine Tr.k [1,5,6,7,8] ?_
 refine Tr.w hcx [] _ [] rfl rfl rfl ?_ X_fc17
 refine Tr.k [1,5,6,7,8] ?_
 refine Tr.f1 hcx 2 (cl pC twP) ?_
 simp only [fz_p twP rfl]
 refine Tr.f1 hcx 3 [.val (str tOdes),sl pC .no twP] ?_
 simp only [fz_a]
 refine Tr.f1 hcx 4 [sl aC .no [(tOdes,twP)]] ?_
 simp only [fz_v]
 refine Tr.k [1,5,6,7,8] ?_
 refine Tr.m1 hcx [0] ?_
 refine Tr.f1 hcx 0 [sl vC .no [[(tOdes,twP)]]] ?_
 refine Tr.m1 hcx [] ?_
 refine Tr.w hcx [1000139] [some 109,some 110,some 111,some 112,some 113,some 114,some 115,some 116,some 117,some 118,some 119,some 120,some 121,some 122,some 123,some 124,some 125,some 126,some 127,some 128,some 129,some 130,some 131,some 132,some 133,some 134,some 135,some 136,some 137,some 138,some 139,some 0] [] rfl rfl rfl ?_ X_fc17
 refine Tr.k [0] ?_
 exact Tr.ret F_fc17
end Go.Sx
namespace Go.Sx
open Go.RowKit Go.Proofs
theorem gt_mem' {α : Type} [Inhabited α] (l : List α) (i : Nat) (h : i < l.length) : gt l i ∈ l := by simp [gt,List.getD,List.getElem?_eq_getElem h]
theorem alW_fl (w : Wrk) : alW w = w.flatMap fun V => V.flatMap (·.2) := by
  rw [alW_eq]; unfold pV pA; rw [List.take_length]
  congr 1; funext V; rw [List.take_length]
theorem mem_alW {w : Wrk} {p : Psg} : p ∈ alW w ↔ ∃ V,V ∈ w ∧ ∃ A,A ∈ V ∧ p ∈ A.2 := by
  rw [alW_fl]; simp only [List.mem_flatMap]
def PG (p : Psg) : Prop := p.2.2.2.1.length ≤ 1000000 ∧ p.2.2.2.2.length ≤ 1000000 ∧ IdOk p.1
structure WG (w : Wrk) : Prop where
  n : w.length ≤ 100000
  al : (alW w).length ≤ 100000
  ar : nA w w.length ≤ 1000000
  v : ∀ V,V ∈ w → V.length ≤ 100000 ∧ ∀ A,A ∈ V → A.1.length ≤ 1000000 ∧ A.2.length ≤ 100000 ∧ ∀ p,p ∈ A.2 → PG p
theorem WG.wb {w : Wrk} (h : WG w) : WB w := by
  refine ⟨by have := h.n; omega,fun v hv => ?_,fun v a hv ha => ?_⟩
  · have := (h.v _ (gt_mem' w v hv)).1; omega
  · have := ((h.v _ (gt_mem' w v hv)).2 _ (gt_mem' _ a ha)).2.1; omega
theorem WG.pg {w : Wrk} (h : WG w) {i : Nat} (hi : i < (rdW w).length) : PG (gt (rdW w) i).2 := by
  rw [← alW_gt w i hi]
  obtain ⟨V,hV,A,hA,hp⟩ := mem_alW.1 (gt_mem' (alW w) i (by rw [alW_len]; exact hi))
  exact ((h.v V hV).2 A hA).2.2 _ hp
theorem WG.ws {w : Wrk} (h : WG w) : WS w := ⟨h.wb,by have := h.al; rw [alW_len] at this; exact this,fun i hi => (h.pg hi).2.1⟩
theorem WG.id {w : Wrk} (h : WG w) : ∀ i,i < (rdW w).length → IdOk (gt (rdW w) i).2.1 := fun i hi => (h.pg hi).2.2
def idk (k : Nat) : ID := (((0 : Nat) : Int),(k : Int),((0 : Nat) : Int))
theorem psF_1 (p : Psg) (j : Nat) (ps : List Psg) : (psF p j ps).1 = p.1 := by unfold psF; split <;> rfl
theorem psF_2 (p : Psg) (j : Nat) (ps : List Psg) : (psF p j ps).2.2 = p.2.2 := by unfold psF; split <;> rfl
theorem psP_ids (l : List Int) (n : Nat) : ∀ j,(psP l n j).map (·.1) = (List.range' n j).map idk
  | 0 => rfl
  | j + 1 => by
    rw [psP,List.map_append,psP_ids l n j,List.range'_concat,List.map_append,Nat.one_mul]
    simp only [List.map_cons,List.map_nil,psF_1]
    rfl
theorem fm_sn {α β : Type} (f : α → List β) (l : List α) (x : α) : (l ++ [x]).flatMap f = l.flatMap f ++ f x := by rw [List.flatMap_append]; simp
theorem arP_ids (l : List Int) (i n : Nat) : ∀ k,n ≤ (arP l i n k).2 ∧ (((arP l i n k).1.flatMap (·.2)).map (·.1)) = (List.range' n ((arP l i n k).2 - n)).map idk
  | 0 => ⟨Nat.le_refl _,by simp [arP]⟩
  | k + 1 => by
    obtain ⟨h1,h2⟩ := arP_ids l i n k
    refine ⟨Nat.le_trans h1 (Nat.le_add_right ..),?_⟩
    simp only [arP]
    rw [fm_sn,List.map_append,h2,psP_ids,← List.map_append]
    congr 1
    generalize (arP l i n k).2 = m at h1
    have := List.range'_append (s := n) (m := m - n) (n := cntP l i k m) (step := 1)
    rw [show n + 1 * (m - n) = m by omega] at this
    rw [this]
    congr 1; omega
theorem voP_ids (l : List Int) : ∀ i,(((voP l i).1.flatMap fun V => V.flatMap (·.2)).map (·.1)) = (List.range' 0 (voP l i).2).map idk
  | 0 => rfl
  | i + 1 => by
    have h := arP_ids l i (voP l i).2 (1 + atI l (1 + i) 2)
    simp only [voP]
    rw [fm_sn,List.map_append,voP_ids l i,h.2,← List.map_append]
    congr 1
    have h1 := h.1
    generalize (arP l i (voP l i).2 (1 + atI l (1 + i) 2)).2 = m at h1
    generalize (voP l i).2 = n at h1
    have := List.range'_append (s := 0) (m := n) (n := m - n) (step := 1)
    rw [show 0 + 1 * n = n by omega] at this
    rw [this]
    congr 1; omega
theorem wkW_ids (l : List Int) : idsA (wkW l) = (List.range' 0 (voP l (1 + atI l 0 4 / 3)).2).map idk := by
  unfold idsA; rw [alW_fl]; exact voP_ids l _
theorem wkW_al (l : List Int) : (alW (wkW l)).length ≤ 8 := by
  have := congrArg List.length (wkW_ids l)
  unfold idsA at this
  rw [List.length_map,List.length_map,List.length_range'] at this
  rw [this]; exact voP_le l _
theorem oneP_pg (l : List Int) (a k : Nat) (h : k < 9) : PG (oneP l a (idk k)) ∧ (oneP l a (idk k)).2.2.2.1.length ≤ 100 ∧ (oneP l a (idk k)).2.2.2.2.length ≤ 2 := by
  have h1 := txtP_len l a (oneN l a)
  have h2 := oneN_le l a
  have h3 := refP_len l a (oneN l a)
  refine ⟨⟨?_,?_,?_⟩,?_,?_⟩
  · show (txtP l a (oneN l a)).length ≤ _; omega
  · show (refP l a (oneN l a)).length ≤ _; omega
  · refine ⟨⟨?_,?_⟩,⟨?_,?_⟩,?_,?_⟩ <;> simp only [oneP,idk] <;> omega
  · show (txtP l a (oneN l a)).length ≤ _; omega
  · show (refP l a (oneN l a)).length ≤ _; omega
theorem psP_pg (l : List Int) (n : Nat) : ∀ j,n + j ≤ 8 → ∀ p,p ∈ psP l n j → PG p
  | 0,_,p,hp => by cases hp
  | j + 1,h,p,hp => by
    rw [psP,List.mem_append,List.mem_singleton] at hp
    rcases hp with hp | rfl
    · exact psP_pg l n j (by omega) p hp
    · have := (oneP_pg l (9 + 4 * (n + j)) (n + j) (by omega)).1
      unfold PG at this ⊢
      rw [psF_1,psF_2]; exact this
theorem arP_pg (l : List Int) (i n : Nat) (h : n ≤ 8) : ∀ k,∀ A,A ∈ (arP l i n k).1 → A.1.length ≤ 1000000 ∧ A.2.length ≤ 100000 ∧ ∀ p,p ∈ A.2 → PG p
  | 0,A,hA => by cases hA
  | k + 1,A,hA => by
    simp only [arP] at hA
    rw [List.mem_append,List.mem_singleton] at hA
    rcases hA with hA | rfl
    · exact arP_pg l i n h k A hA
    · have h1 := arP_le l i n h k
      have h2 : cntP l i k (arP l i n k).2 = min (1 + atI l (5 + 2 * i + k) 3) (8 - (arP l i n k).2) := rfl
      refine ⟨?_,?_,?_⟩
      · have := (textT_ok l (3 + i + k)).2.1; show (textT l (3 + i + k)).length ≤ _; omega
      · show (psP _ _ _).length ≤ _; rw [psP_len]; omega
      · exact psP_pg l _ _ (by omega)
theorem voP_pg (l : List Int) : ∀ i,∀ V,V ∈ (voP l i).1 → V.length ≤ 2 ∧ ∀ A,A ∈ V → A.1.length ≤ 1000000 ∧ A.2.length ≤ 100000 ∧ ∀ p,p ∈ A.2 → PG p
  | 0,V,hV => by cases hV
  | i + 1,V,hV => by
    simp only [voP] at hV
    rw [List.mem_append,List.mem_singleton] at hV
    rcases hV with hV | rfl
    · exact voP_pg l i V hV
    · refine ⟨?_,arP_pg l i _ (voP_le l i) _⟩
      rw [arP_len]
      have := atI_lt l (1 + i) (m := 2) (by decide); omega
theorem wkW_len (l : List Int) : (wkW l).length = 1 + atI l 0 4 / 3 := voP_len l _
theorem nA_bnd {w : Wrk} {c : Nat} (h : ∀ V,V ∈ w → V.length ≤ c) : ∀ v,v ≤ w.length → nA w v ≤ c * v
  | 0,_ => Nat.zero_le _
  | v + 1,hv => by
    rw [nA_S w v (by omega)]
    have h1 := nA_bnd h v (by omega)
    have h2 := h _ (gt_mem' w v (by omega))
    rw [Nat.mul_succ]; omega
theorem idI_ok {w : Wrk} (h : WG w) (m : List Int) (i : Nat) : IdOk (idI w m i) := by
  unfold idI
  split
  · rename_i hk
    rw [alW_len] at hk
    rw [alW_gt w _ (by rw [alW_len]; exact hk)]
    have := h.id _ hk
    rw [alW_len]; exact this
  · have h1 := atI_lt m (2 * i + 1) (m := 3) (by decide)
    have h2 := atI_lt m (2 * i + 1) (m := 10) (by decide)
    refine ⟨⟨?_,?_⟩,⟨?_,?_⟩,?_,?_⟩ <;> simp only [] <;> omega
theorem idsW_ok {w : Wrk} (h : WG w) (m : List Int) : (∀ x,x ∈ idsW w m → IdOk x) ∧ (idsW w m).length ≤ 12 := by
  constructor
  · intro x hx
    unfold idsW at hx
    obtain ⟨i,_,rfl⟩ := List.mem_map.1 hx
    exact idI_ok h m i
  · unfold idsW idN; rw [List.length_map,List.length_range]; omega
end Go.Sx
namespace Go.Sx
open Go.RowKit Go.Proofs
set_option maxRecDepth 100000
set_option maxHeartbeats 8000000
end Go.Sx
namespace Go.Sx
open Go.RowKit Go.Proofs
theorem iD_inj {x y : ID} : iD x = iD y ↔ x = y := ⟨fun h => Inj.inj _ _ h,fun h => by rw [h]⟩
theorem pC_inj {x y : Psg} : pC x = pC y ↔ x = y := ⟨fun h => Inj.inj _ _ h,fun h => by rw [h]⟩
section
variable {gl : Nat → C} {pu : Nat → List C → Option C}
noncomputable def mk64 (hgn : ∀ g,noRef 0 (gl g) = true) : Mk Tryd.prog gl 64 Unit where
  args := fun _ => []
  r := fun _ => .agg [.gv 3 1 (1,46)]
  Y := fun _ => [some [.gv 3 1 (1,46)],some (cl pC exPs),some [.val (str tOdes),.gv 1 3 (7,37)],some [.gv 2 1 (2,48)]]
  nr := fun _ => rfl
  inj := fun _ _ _ => ⟨rfl,rfl⟩
  fc := fun _ => fc64 (M := 0) (pu := fun _ _ => none) (CxOK.zero hgn)
noncomputable def hp64 (hgn : ∀ g,noRef 0 (gl g) = true) : Nat → List C → Hp → Option (C × Hp) := (mk64 hgn).tab (fun _ _ _ => none)
theorem okMk (hgn : ∀ g,noRef 0 (gl g) = true) (h : CxOK (cxP gl 0 pu)) : CxOK (cxR gl 0 pu (hp64 hgn)) := CxOK.mk1 (cxM_of h) (mk64 hgn)
theorem hq64_of (hgn : ∀ g,noRef 0 (gl g) = true) : ∀ pre : Hp,OkH pre → hp64 hgn 64 [] pre = some (.agg [.gv (pre.length + 3) 1 (1,46)],pre ++ [some [.gv (pre.length + 3) 1 (1,46)],some (cl pC exPs),some [.val (str tOdes),.gv (pre.length + 1) 3 (7,37)],some [.gv (pre.length + 2) 1 (2,48)]]) := fun pre h => by
  have e := (mk64 hgn).look (fun _ _ _ => none) () pre h
  unfold hp64
  refine e.trans ?_
  have e1 : ∀ n,shH n ((mk64 hgn).Y ()) = [some [.gv (n + 3) 1 (1,46)],some (cl pC exPs),some [.val (str tOdes),.gv (n + 1) 3 (7,37)],some [.gv (n + 2) 1 (2,48)]] := fun n => by
    show [_,_,_,_] = _
    simp only [Option.map_some,bkCs,bkC,bks_nr _ _ (noRefs_cl pC 0 exPs)]
  rw [e1]
  rfl
end
end Go.Sx
namespace Go.Sx
open Go.RowKit Go.Proofs
set_option maxRecDepth 100000
set_option maxHeartbeats 8000000
def NF (w : Wrk) (id : ID) (n : Nat) : Prop := ∀ j,j < n → ¬ (gt (rdW w) j).2.1 = id
theorem NF_0 (w : Wrk) (id : ID) : NF w id (oV w 0) := fun j hj => absurd hj (by rw [oV_0]; omega)
theorem NF_V {w : Wrk} {id : ID} {v : Nat} (h : NF w id (oV w v)) : NF w id (oV w v + oA v (gt w v) 0) := h
theorem NF_A {w : Wrk} {id : ID} {v a : Nat} (h : NF w id (oV w v + oA v (gt w v) a)) : NF w id (oV w v + (oA v (gt w v) a + 0)) := h
theorem NF_j {w : Wrk} {id : ID} {v a j : Nat} (hv : v < w.length) (ha : a < (gt w v).length) (hj : j < (gt (gt w v) a).2.length) (h : NF w id (oV w v + (oA v (gt w v) a + j))) (hn : ¬ (gt (gt (gt w v) a).2 j).1 = id) : NF w id (oV w v + (oA v (gt w v) a + (j + 1))) := fun k hk => by
  by_cases e : k = oV w v + (oA v (gt w v) a + j)
  · rw [e,(rdW_gt w v a j hv ha hj).1]; exact hn
  · exact h k (by omega)
theorem NF_a {w : Wrk} {id : ID} {v a : Nat} (h : NF w id (oV w v + (oA v (gt w v) a + (gt (gt w v) a).2.length))) : NF w id (oV w v + oA v (gt w v) (a + 1)) := by rw [oA_S]; exact h
theorem NF_v {w : Wrk} {id : ID} {v : Nat} (h : NF w id (oV w v + oA v (gt w v) (gt w v).length)) : NF w id (oV w (v + 1)) := by rw [oV_S]; rw [oA_n] at h; exact h
theorem NF_n {w : Wrk} {id : ID} (h : NF w id (oV w w.length)) : fnd w id = ((0,0,0),false) := fnd_F (by rw [oV_n] at h; exact h)
theorem fnd_hit {w : Wrk} {id : ID} {v a j : Nat} (hv : v < w.length) (ha : a < (gt w v).length) (hj : j < (gt (gt w v) a).2.length) (h : NF w id (oV w v + (oA v (gt w v) a + j))) (hn : (gt (gt (gt w v) a).2 j).1 = id) : fnd w id = ((v,a,j),true) := by
  have e := rdW_gt w v a j hv ha hj
  have := fnd_T (id := id) e.2 h (by rw [e.1]; exact hn)
  rw [this,e.1]
theorem X_fc33 {p : Prop} (e : p := by intro KZ hZ; simp -implicitDefEqProofs (disch := first | omega | (simp only [go_sem,lA,lD,lT,hw1,hvl,hal] <;> omega) | decide) only [go_sem,↓reduceIte,Nat.reduceEqDiff,reduceCtorEq,Nat.reduceLT,Nat.reduceBEq,Nat.reduceAdd,h60,hy]; with_reducible exact hZ) : p := e
theorem Y_fc33 {p : Prop} (e : p := by intro KZ hZ; simp -implicitDefEqProofs (disch := first | omega | (simp only [go_sem,lA,lD,lT,hw1,hvl,hal] <;> omega) | decide) only [go_sem,↓reduceIte,Nat.reduceEqDiff,reduceCtorEq,Nat.reduceLT,Nat.reduceBEq,Nat.reduceAdd,h60,hy]; with_reducible refine And.intro ?_ hZ; first | exact rfl | decide) : p := e
theorem F_fc33 {p : Prop} (e : p := by simp -implicitDefEqProofs (disch := first | omega | (simp only [go_sem,lA,lD,lT,hw1,hvl,hal] <;> omega) | decide) only [go_sem,↓reduceIte,Nat.reduceEqDiff,reduceCtorEq]; all_goals (first | (rw [hR]; done) | (rw [hR]; rfl))) : p := e
theorem fc33 {gl : Nat → C} {M : Nat} {pu : Nat → List C → Option C} (hcx : CxOK (cxP gl M pu)) (h60 : ∀ a b : ID,pu 60 [.agg (iD a),.agg (iD b)] = some (.val (.bool (decide (a = b))))) (w : Wrk) (id : ID) (hw : WB w) : FC Tryd.prog gl 33 [.agg [sl vC .no w],.agg (iD id)] [] (.tup [.agg [.val (nI (fnd w id).1.1),.val (nI (fnd w id).1.2.1),.val (nI (fnd w id).1.2.2)],.val (.bool (fnd w id).2)]) [] := by
 replace hcx := hcx.reN (M := 56)
 refine FC.ofA (cx := cxP gl 56 pu) (rs := [.cell 4 60,.tmp 5]) rfl Tryd.func33 rfl rfl rfl (by simp only [List.length_cons,List.length_nil]; decide) (by simp only [go_sem]) ?_
 simp only [ini,go_sem]
 have hy := True.intro
 have hw1 := hw.1
 have hvl := True.intro
 have hal := True.intro
 refine Tr.w hcx [] _ [none,none,none] rfl rfl rfl ?_ X_fc33
 refine Tr.seqK fun K1 hK1 => ?_
 refine Tr.w hcx [] _ [] rfl rfl rfl ?_ X_fc33
 refine Tr.k [2,3,4,6] ?_
 refine Tr.blk ?_
 refine Tr.k [2,3,4,6] ?_
 refine Tr.f1 hcx 0 [sl vC .no w] ?_
 refine Tr.f1 hcx 1 (iD id) ?_
 refine Tr.m1 hcx [2] ?_
 refine Tr.loopI (α := Nat) (fun a => [(2,?v2_1),(3,?v3_1),(4,?v4_1),(6,.val (nI a))]) (fun a => [some [.val (nI 0),.val (nI 0),.val (nI 0)]]) (fun a => a ≤ w.length ∧ NF w id (oV w a)) (fun a => w.length - a) (0) ⟨Nat.zero_le _,NF_0 w id⟩ ?le_1 ?hh_1 ?bd_1
 case hh_1 => exact rfl
 case le_1 => exact LT
 rintro v ⟨hv0,hF⟩
 refine Tr.seqK fun K2 hK2 => ?_
 refine Tr.w hcx [] _ [] rfl rfl rfl ?_ X_fc33
 refine Tr.cD rfl (fun hc14 => ?_) (fun hc14 => ?_)
 ·
  have hvl := hw.2.1 v hc14
  refine Tr.skip ?_
  refine hK2 _ ?_
  refine Tr.seqK fun K3 hK3 => ?_
  refine Tr.blk ?_
  refine Tr.w hcx [] _ [] rfl rfl rfl ?_ X_fc33
  refine Tr.k [2,3,4,6,7] ?_
  refine Tr.blk ?_
  refine Tr.loopI (α := Nat) (fun a => [(2,?v2_2),(3,?v3_2),(4,?v4_2),(6,?v6_2),(7,.val (nI a))]) (fun a => [some [.val (nI 0),.val (nI 0),.val (nI 0)]]) (fun a => a ≤ (gt w v).length ∧ NF w id (oV w v + oA v (gt w v) a)) (fun a => (gt w v).length - a) (0) ⟨Nat.zero_le _,NF_V hF⟩ ?le_2 ?hh_2 ?bd_2
  case hh_2 => exact rfl
  case le_2 => exact LT
  rintro k ⟨ha0,hA⟩
  refine Tr.seqK fun K4 hK4 => ?_
  refine Tr.w hcx [] _ [] rfl rfl rfl ?_ X_fc33
  refine Tr.cD rfl (fun hc25 => ?_) (fun hc25 => ?_)
  ·
   have hal := hw.2.2 v k hc14 hc25
   refine Tr.skip ?_
   refine hK4 _ ?_
   refine Tr.seqK fun K5 hK5 => ?_
   refine Tr.blk ?_
   refine Tr.w hcx [1000037] _ [] rfl rfl rfl ?_ X_fc33
   refine Tr.w hcx [] _ [] rfl rfl rfl ?_ X_fc33
   refine Tr.k [2,3,4,6,7,8,9] ?_
   refine Tr.blk ?_
   refine Tr.loopI (α := Nat) (fun a => [(2,?v2_3),(3,?v3_3),(4,?v4_3),(6,?v6_3),(7,?v7_3),(8,?v8_3),(9,.val (nI a))]) (fun a => [some [.val (nI 0),.val (nI 0),.val (nI 0)]]) (fun a => a ≤ (gt (gt w v) k).2.length ∧ NF w id (oV w v + (oA v (gt w v) k + a))) (fun a => (gt (gt w v) k).2.length - a) (0) ⟨Nat.zero_le _,NF_A hA⟩ ?le_3 ?hh_3 ?bd_3
   case hh_3 => exact rfl
   case le_3 => exact LT
   rintro j ⟨hj0,hJ⟩
   refine Tr.seqK fun K6 hK6 => ?_
   refine Tr.w hcx [] _ [] rfl rfl rfl ?_ X_fc33
   refine Tr.cD rfl (fun hc41 => ?_) (fun hc41 => ?_)
   ·
    refine Tr.skip ?_
    refine hK6 _ ?_
    refine Tr.seqK fun K7 hK7 => ?_
    refine Tr.blk ?_
    refine Tr.wD hcx hMO [] _ [] rfl rfl rfl rfl ?_ Y_fc33
    refine Tr.cD rfl (fun hc50 => ?_) (fun hc50 => ?_)
    ·
     have hR := fnd_hit hc14 hc25 hc41 hJ hc50
     refine Tr.w hcx [] _ [] rfl rfl rfl ?_ X_fc33
     exact Tr.ret F_fc33
    refine Tr.skip ?_
    refine hK7 _ ?_
    refine Tr.v hcx [1000043] _ [] rfl rfl rfl ?_ X_fc33
    exact ⟨j + 1,⟨⟨by omega,NF_j hc14 hc25 hc41 hJ hc50⟩,O1⟩,LT,rfl⟩
   obtain rfl : j = (gt (gt w v) k).2.length := by omega
   refine Tr.exit ?_
   refine hK5 _ ?_
   refine Tr.v hcx [1000027] _ [] rfl rfl rfl ?_ X_fc33
   exact ⟨k + 1,⟨⟨by omega,NF_a hJ⟩,O1⟩,LT,rfl⟩
  obtain rfl : k = (gt w v).length := by omega
  refine Tr.exit ?_
  refine hK3 _ ?_
  refine Tr.v hcx [1000016] _ [] rfl rfl rfl ?_ X_fc33
  exact ⟨v + 1,⟨⟨by omega,NF_v hA⟩,O1⟩,LT,rfl⟩
 obtain rfl : v = w.length := by omega
 have hR := NF_n hF
 refine Tr.exit ?_
 refine hK1 _ ?_
 refine Tr.w hcx [] _ [] rfl rfl rfl ?_ X_fc33
 exact Tr.ret F_fc33
end Go.Sx
namespace Go.Sx
open Go.RowKit
end Go.Sx
