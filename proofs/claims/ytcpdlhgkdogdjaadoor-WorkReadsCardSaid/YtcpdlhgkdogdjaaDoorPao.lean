/-
   And what follows.
-/
import Derived.Test.YtcpdlhgkdogdjaaDoorPan
set_option linter.unusedSimpArgs false
set_option linter.unusedVariables false
namespace Go.Sx
open Go.RowKit Go.Proofs
set_option maxRecDepth 100000
set_option maxHeartbeats 8000000
def endT (s : List UInt8) (i : Nat) : Nat := i + 1 + rnL (kd (gt s i)) (s.drop (i + 1))
theorem endT_le (s : List UInt8) (i : Nat) (h : i < s.length) : i < endT s i ∧ endT s i ≤ s.length := by
  unfold endT
  have := rnL_le (kd (gt s i)) (s.drop (i + 1))
  rw [List.length_drop] at this
  omega
theorem rnL_go {s : List UInt8} {k j : Nat} (hk : k < 2) (h : j < s.length) (he : kd (gt s j) = k) : j + 1 + rnL k (s.drop (j + 1)) = j + rnL k (s.drop j) := by
  have e : s[j] = gt s j := by simp [gt,List.getD,List.getElem?_eq_getElem h]
  rw [List.drop_eq_getElem_cons h,e]
  show _ = j + (if k < 2 ∧ kd (gt s j) = k then _ else 0)
  rw [if_pos ⟨hk,he⟩]; omega
theorem rnL_stop {s : List UInt8} {k j : Nat} (h : ¬ (k < 2 ∧ j < s.length ∧ kd (gt s j) = k)) : rnL k (s.drop j) = 0 := by
  by_cases hj : j < s.length
  · have e : s[j] = gt s j := by simp [gt,List.getD,List.getElem?_eq_getElem hj]
    rw [List.drop_eq_getElem_cons hj,e]
    show (if k < 2 ∧ kd (gt s j) = k then _ else 0) = 0
    exact if_neg (fun q => h ⟨q.1,hj,q.2⟩)
  · rw [List.drop_of_length_le (by omega)]; rfl
theorem spl_at {s : List UInt8} {i : Nat} (h : i < s.length) (hc : gt s i ≠ 32) : spl i none (s.drop i) = ⟨i,endT s i,kd (gt s i)⟩ :: spl (endT s i) none (s.drop (endT s i)) := by
  have e : s[i] = gt s i := by simp [gt,List.getD,List.getElem?_eq_getElem h]
  rw [List.drop_eq_getElem_cons h,e,spl_tok _ _ _ hc,List.drop_drop]; rfl
theorem spl_bl {s : List UInt8} {i : Nat} (h : i < s.length) (hc : gt s i = 32) : spl i none (s.drop i) = spl (i + 1) none (s.drop (i + 1)) := by
  have e : s[i] = gt s i := by simp [gt,List.getD,List.getElem?_eq_getElem h]
  rw [List.drop_eq_getElem_cons h,e,hc,spl_blank]
theorem splOK {s : List UInt8} {i : Nat} {out : List Tok} (h : i < s.length) (hl : out.length ≤ i) (hr : out ++ spl i none (s.drop i) = toks s) :
    (if gt s i = 32 then (i + 1,out) else (endT s i,out ++ [⟨i,endT s i,kd (gt s i)⟩])).1 ≤ s.length ∧ (if gt s i = 32 then (i + 1,out) else (endT s i,out ++ [⟨i,endT s i,kd (gt s i)⟩])).2.length ≤ (if gt s i = 32 then (i + 1,out) else (endT s i,out ++ [⟨i,endT s i,kd (gt s i)⟩])).1 ∧
    (if gt s i = 32 then (i + 1,out) else (endT s i,out ++ [⟨i,endT s i,kd (gt s i)⟩])).2 ++ spl (if gt s i = 32 then (i + 1,out) else (endT s i,out ++ [⟨i,endT s i,kd (gt s i)⟩])).1 none (s.drop (if gt s i = 32 then (i + 1,out) else (endT s i,out ++ [⟨i,endT s i,kd (gt s i)⟩])).1) = toks s := by
  split
  · rename_i hb
    exact ⟨h,Nat.le_succ_of_le hl,by rw [← spl_bl h hb]; exact hr⟩
  · rename_i hb
    have := endT_le s i h
    refine ⟨this.2,?_,?_⟩
    · simp only [List.length_append,List.length_singleton]; omega
    · rw [List.append_assoc,List.singleton_append,← spl_at h hb]; exact hr
theorem rnL_ok {s : List UInt8} {i j : Nat} (h2 : kd (gt s i) < 2) (h3 : j < s.length) (h : kd (gt s j) = kd (gt s i)) (hr : j + rnL (kd (gt s i)) (s.drop j) = endT s i) : j + 1 + rnL (kd (gt s i)) (s.drop (j + 1)) = endT s i := by rw [rnL_go h2 h3 h]; exact hr
theorem X_fc100 {p : Prop} (e : p := by intro KZ hZ; simp -implicitDefEqProofs (disch := first | omega | (simp only [go_sem,lA,lD,lT] <;> omega) | decide) only [go_sem,↓reduceIte,Nat.reduceEqDiff,reduceCtorEq,Nat.reduceLT,Nat.reduceBEq,Nat.reduceAdd,a1,a2,a3,a4,a5,a6,hy]; with_reducible exact hZ) : p := e
theorem F_fc100 {p : Prop} (e : p := by simp -implicitDefEqProofs (disch := first | omega | (simp only [go_sem,lA,lD,lT] <;> omega) | decide) only [go_sem,↓reduceIte,Nat.reduceEqDiff,reduceCtorEq]; all_goals (exact congrArg (fun z => some (C.val (nI z))) (by unfold kd; ((all_goals (try simp only [UInt8.le_iff_toNat_le,← UInt8.toNat_inj,UInt8.reduceToNat,UInt8.reduceOfNat] at a1)); (all_goals (try simp only [UInt8.le_iff_toNat_le,← UInt8.toNat_inj,UInt8.reduceToNat,UInt8.reduceOfNat] at a2)); (all_goals (try simp only [UInt8.le_iff_toNat_le,← UInt8.toNat_inj,UInt8.reduceToNat,UInt8.reduceOfNat] at a3)); (all_goals (try simp only [UInt8.le_iff_toNat_le,← UInt8.toNat_inj,UInt8.reduceToNat,UInt8.reduceOfNat] at a4)); (all_goals (try simp only [UInt8.le_iff_toNat_le,← UInt8.toNat_inj,UInt8.reduceToNat,UInt8.reduceOfNat] at a5)); (all_goals (try simp only [UInt8.le_iff_toNat_le,← UInt8.toNat_inj,UInt8.reduceToNat,UInt8.reduceOfNat] at a6)); (all_goals (try simp only [UInt8.le_iff_toNat_le,← UInt8.toNat_inj,UInt8.reduceToNat,UInt8.reduceOfNat] at hc25)); simp only [UInt8.le_iff_toNat_le,← UInt8.toNat_inj,UInt8.reduceToNat,UInt8.reduceOfNat]; (repeat' split); (all_goals first | rfl | omega))))) : p := e
theorem fc100 {gl : Nat → C} {M : Nat} {pu : Nat → List C → Option C} (hcx : CxOK (cxP gl M pu)) (c : UInt8) : FC Tryd.prog gl 100 [.val (w8 c)] [] (.val (nI (kd c))) [] := by
 replace hcx := hcx.reN (M := 28)
 refine FC.ofA (cx := cxP gl 28 pu) (rs := [.tmp 2]) rfl Tryd.func100 rfl rfl rfl (by simp only [List.length_cons,List.length_nil]; decide) (by simp only [go_sem]) ?_
 simp only [ini,go_sem]
 have a1 := True.intro
 have a2 := True.intro
 have a3 := True.intro
 have a4 := True.intro
 have a5 := True.intro
 have a6 := True.intro
 have hy := True.intro
 refine Tr.w hcx [] _ [] rfl rfl rfl ?_ X_fc100
 refine Tr.seqK fun K1 hK1 => ?_
 refine Tr.blk ?_
 by_cases a1 : UInt8.ofNat 97 ≤ c
 ·
  by_cases a2 : c ≤ UInt8.ofNat 122
  ·
   refine Tr.w hcx [1000017] [some 4,some 5,some 6,some 7,some 8,some 9,some 10,some 11,some 12,some 13,some 14,some 15,some 16,some 17,some 3] [] rfl rfl rfl ?_ X_fc100
   refine Tr.cT rfl ?_
   refine Tr.w hcx [] _ [] rfl rfl rfl ?_ X_fc100
   exact Tr.ret F_fc100
  by_cases a3 : UInt8.ofNat 65 ≤ c
  ·
   by_cases a4 : c ≤ UInt8.ofNat 90
   ·
    refine Tr.w hcx [1000017] [some 4,some 5,some 6,some 7,some 8,some 9,some 10,some 11,some 12,some 13,some 14,some 15,some 16,some 17,some 3] [] rfl rfl rfl ?_ X_fc100
    refine Tr.cT rfl ?_
    refine Tr.w hcx [] _ [] rfl rfl rfl ?_ X_fc100
    exact Tr.ret F_fc100
   refine Tr.w hcx [1000017] [some 4,some 5,some 6,some 7,some 8,some 9,some 10,some 11,some 12,some 13,some 14,some 15,some 16,some 17,some 3] [] rfl rfl rfl ?_ X_fc100
   refine Tr.cF rfl ?_
   by_cases a5 : UInt8.ofNat 48 ≤ c
   ·
    by_cases a6 : c ≤ UInt8.ofNat 57
    ·
     refine Tr.w hcx [1000024] [some 19,some 20,some 21,some 22,some 23,some 24,some 18] [] rfl rfl rfl ?_ X_fc100
     refine Tr.cT rfl ?_
     refine Tr.w hcx [] _ [] rfl rfl rfl ?_ X_fc100
     exact Tr.ret F_fc100
    refine Tr.w hcx [1000024] [some 19,some 20,some 21,some 22,some 23,some 24,some 18] [] rfl rfl rfl ?_ X_fc100
    refine Tr.cF rfl ?_
    refine Tr.w hcx [1000027] _ [] rfl rfl rfl ?_ X_fc100
    refine Tr.k [25] ?_
    refine Tr.cD rfl (fun hc25 => ?_) (fun hc25 => ?_)
    ·
     refine Tr.w hcx [] _ [] rfl rfl rfl ?_ X_fc100
     exact Tr.ret F_fc100
    refine Tr.skip ?_
    refine hK1 _ ?_
    refine Tr.w hcx [] _ [] rfl rfl rfl ?_ X_fc100
    exact Tr.ret F_fc100
   refine Tr.w hcx [1000024] [some 19,some 20,some 21,some 22,some 23,some 24,some 18] [] rfl rfl rfl ?_ X_fc100
   refine Tr.cF rfl ?_
   refine Tr.w hcx [1000027] _ [] rfl rfl rfl ?_ X_fc100
   refine Tr.k [25] ?_
   refine Tr.cD rfl (fun hc25 => ?_) (fun hc25 => ?_)
   ·
    refine Tr.w hcx [] _ [] rfl rfl rfl ?_ X_fc100
    exact Tr.ret F_fc100
   refine Tr.skip ?_
   refine hK1 _ ?_
   refine Tr.w hcx [] _ [] rfl rfl rfl ?_ X_fc100
   exact Tr.ret F_fc100
  refine Tr.w hcx [1000017] [some 4,some 5,some 6,some 7,some 8,some 9,some 10,some 11,some 12,some 13,some 14,some 15,some 16,some 17,some 3] [] rfl rfl rfl ?_ X_fc100
  refine Tr.cF rfl ?_
  by_cases a5 : UInt8.ofNat 48 ≤ c
  ·
   by_cases a6 : c ≤ UInt8.ofNat 57
   ·
    refine Tr.w hcx [1000024] [some 19,some 20,some 21,some 22,some 23,some 24,some 18] [] rfl rfl rfl ?_ X_fc100
    refine Tr.cT rfl ?_
    refine Tr.w hcx [] _ [] rfl rfl rfl ?_ X_fc100
    exact Tr.ret F_fc100
   refine Tr.w hcx [1000024] [some 19,some 20,some 21,some 22,some 23,some 24,some 18] [] rfl rfl rfl ?_ X_fc100
   refine Tr.cF rfl ?_
   refine Tr.w hcx [1000027] _ [] rfl rfl rfl ?_ X_fc100
   refine Tr.k [25] ?_
   refine Tr.cD rfl (fun hc25 => ?_) (fun hc25 => ?_)
   ·
    refine Tr.w hcx [] _ [] rfl rfl rfl ?_ X_fc100
    exact Tr.ret F_fc100
   refine Tr.skip ?_
   refine hK1 _ ?_
   refine Tr.w hcx [] _ [] rfl rfl rfl ?_ X_fc100
   exact Tr.ret F_fc100
  refine Tr.w hcx [1000024] [some 19,some 20,some 21,some 22,some 23,some 24,some 18] [] rfl rfl rfl ?_ X_fc100
  refine Tr.cF rfl ?_
  refine Tr.w hcx [1000027] _ [] rfl rfl rfl ?_ X_fc100
  refine Tr.k [25] ?_
  refine Tr.cD rfl (fun hc25 => ?_) (fun hc25 => ?_)
  ·
   refine Tr.w hcx [] _ [] rfl rfl rfl ?_ X_fc100
   exact Tr.ret F_fc100
  refine Tr.skip ?_
  refine hK1 _ ?_
  refine Tr.w hcx [] _ [] rfl rfl rfl ?_ X_fc100
  exact Tr.ret F_fc100
 by_cases a3 : UInt8.ofNat 65 ≤ c
 ·
  by_cases a4 : c ≤ UInt8.ofNat 90
  ·
   refine Tr.w hcx [1000017] [some 4,some 5,some 6,some 7,some 8,some 9,some 10,some 11,some 12,some 13,some 14,some 15,some 16,some 17,some 3] [] rfl rfl rfl ?_ X_fc100
   refine Tr.cT rfl ?_
   refine Tr.w hcx [] _ [] rfl rfl rfl ?_ X_fc100
   exact Tr.ret F_fc100
  refine Tr.w hcx [1000017] [some 4,some 5,some 6,some 7,some 8,some 9,some 10,some 11,some 12,some 13,some 14,some 15,some 16,some 17,some 3] [] rfl rfl rfl ?_ X_fc100
  refine Tr.cF rfl ?_
  by_cases a5 : UInt8.ofNat 48 ≤ c
  ·
   by_cases a6 : c ≤ UInt8.ofNat 57
   ·
    refine Tr.w hcx [1000024] [some 19,some 20,some 21,some 22,some 23,some 24,some 18] [] rfl rfl rfl ?_ X_fc100
    refine Tr.cT rfl ?_
    refine Tr.w hcx [] _ [] rfl rfl rfl ?_ X_fc100
    exact Tr.ret F_fc100
   refine Tr.w hcx [1000024] [some 19,some 20,some 21,some 22,some 23,some 24,some 18] [] rfl rfl rfl ?_ X_fc100
   refine Tr.cF rfl ?_
   refine Tr.w hcx [1000027] _ [] rfl rfl rfl ?_ X_fc100
   refine Tr.k [25] ?_
   refine Tr.cD rfl (fun hc25 => ?_) (fun hc25 => ?_)
   ·
    refine Tr.w hcx [] _ [] rfl rfl rfl ?_ X_fc100
    exact Tr.ret F_fc100
   refine Tr.skip ?_
   refine hK1 _ ?_
   refine Tr.w hcx [] _ [] rfl rfl rfl ?_ X_fc100
   exact Tr.ret F_fc100
  refine Tr.w hcx [1000024] [some 19,some 20,some 21,some 22,some 23,some 24,some 18] [] rfl rfl rfl ?_ X_fc100
  refine Tr.cF rfl ?_
  refine Tr.w hcx [1000027] _ [] rfl rfl rfl ?_ X_fc100
  refine Tr.k [25] ?_
  refine Tr.cD rfl (fun hc25 => ?_) (fun hc25 => ?_)
  ·
   refine Tr.w hcx [] _ [] rfl rfl rfl ?_ X_fc100
   exact Tr.ret F_fc100
  refine Tr.skip ?_
  refine hK1 _ ?_
  refine Tr.w hcx [] _ [] rfl rfl rfl ?_ X_fc100
  exact Tr.ret F_fc100
 refine Tr.w hcx [1000017] [some 4,some 5,some 6,some 7,some 8,some 9,some 10,some 11,some 12,some 13,some 14,some 15,some 16,some 17,some 3] [] rfl rfl rfl ?_ X_fc100
 refine Tr.cF rfl ?_
 by_cases a5 : UInt8.ofNat 48 ≤ c
 ·
  by_cases a6 : c ≤ UInt8.ofNat 57
  ·
   refine Tr.w hcx [1000024] [some 19,some 20,some 21,some 22,some 23,some 24,some 18] [] rfl rfl rfl ?_ X_fc100
   refine Tr.cT rfl ?_
   refine Tr.w hcx [] _ [] rfl rfl rfl ?_ X_fc100
   exact Tr.ret F_fc100
  refine Tr.w hcx [1000024] [some 19,some 20,some 21,some 22,some 23,some 24,some 18] [] rfl rfl rfl ?_ X_fc100
  refine Tr.cF rfl ?_
  refine Tr.w hcx [1000027] _ [] rfl rfl rfl ?_ X_fc100
  refine Tr.k [25] ?_
  refine Tr.cD rfl (fun hc25 => ?_) (fun hc25 => ?_)
  ·
   refine Tr.w hcx [] _ [] rfl rfl rfl ?_ X_fc100
   exact Tr.ret F_fc100
  refine Tr.skip ?_
  refine hK1 _ ?_
  refine Tr.w hcx [] _ [] rfl rfl rfl ?_ X_fc100
  exact Tr.ret F_fc100
 refine Tr.w hcx [1000024] [some 19,some 20,some 21,some 22,some 23,some 24,some 18] [] rfl rfl rfl ?_ X_fc100
 refine Tr.cF rfl ?_
 refine Tr.w hcx [1000027] _ [] rfl rfl rfl ?_ X_fc100
 refine Tr.k [25] ?_
 refine Tr.cD rfl (fun hc25 => ?_) (fun hc25 => ?_)
 ·
  refine Tr.w hcx [] _ [] rfl rfl rfl ?_ X_fc100
  exact Tr.ret F_fc100
 refine Tr.skip ?_
 refine hK1 _ ?_
 refine Tr.w hcx [] _ [] rfl rfl rfl ?_ X_fc100
 exact Tr.ret F_fc100
theorem X_fc99 {p : Prop} (e : p := by intro KZ hZ; simp -implicitDefEqProofs (disch := first | omega | (simp only [go_sem,lA,lD,lT] <;> omega) | decide) only [go_sem,↓reduceIte,Nat.reduceEqDiff,reduceCtorEq,Nat.reduceLT,Nat.reduceBEq,Nat.reduceAdd,h100,b1,b2,b3,hy]; with_reducible exact hZ) : p := e
theorem F_fc99 {p : Prop} (e : p := by simp -implicitDefEqProofs (disch := first | omega | (simp only [go_sem,lA,lD,lT] <;> omega) | decide) only [go_sem,↓reduceIte,Nat.reduceEqDiff,reduceCtorEq]; all_goals (exact congrArg (fun z => some (C.val (nI z))) (by rw [← hr,rnL_stop (by intro hh; first | exact b3 hh.2.1 | omega)]; rfl))) : p := e
theorem fc99 {gl : Nat → C} {M : Nat} {pu : Nat → List C → Option C} (hcx : CxOK (cxP gl M pu)) (h100 : ∀ c : UInt8,pu 100 [.val (w8 c)] = some (.val (nI (kd c)))) (s : List UInt8) (i : Nat) (hs : i < s.length ∧ s.length ≤ 1000000) : FC Tryd.prog gl 99 [.val (nI i),.kp [.val (str s)]] [] (.val (nI (endT s i))) [] := by
 replace hcx := hcx.reN (M := 35)
 refine FC.ofA (cx := cxP gl 35 pu) (rs := [.tmp 3]) rfl Tryd.func99 rfl rfl rfl (by simp only [List.length_cons,List.length_nil]; decide) (by simp only [go_sem]) ?_
 simp only [ini,go_sem]
 have b1 := True.intro
 have b2 := True.intro
 have b3 := True.intro
 have hy := True.intro
 refine Tr.w hcx [] _ [] rfl rfl rfl ?_ X_fc99
 refine Tr.w hcx [1000009] _ [] rfl rfl rfl ?_ X_fc99
 refine Tr.w hcx [1000011] _ [] rfl rfl rfl ?_ X_fc99
 refine Tr.k [1,4,5] ?_
 refine Tr.seqK fun K1 hK1 => ?_
 refine Tr.blk ?_
 refine Tr.loopI (α := Nat) (fun a => [(1,?v1_1),(4,?v4_1),(5,.val (nI a))]) (fun a => ?h_1) (fun a => i < a ∧ a ≤ s.length ∧ a + rnL (kd (gt s i)) (s.drop a) = endT s i) (fun a => s.length - a) (i + 1) ⟨Nat.lt_succ_self _,hs.1,rfl⟩ ?le_1 ?hh_1 ?bd_1
 case hh_1 => exact rfl
 case le_1 => exact LT
 rintro j ⟨hj,hj2,hr⟩
 refine Tr.seqK fun K2 hK2 => ?_
 by_cases b1 : kd (gt s i) = 0
 ·
  by_cases b3 : j < s.length
  ·
   refine Tr.w hcx [] [some 12,some 13,some 14,some 15,some 16,some 17,some 18,some 19,some 20,some 21,some 22,some 23,some 24,some 25,some 26,some 27,some 28,some 29,some 30,some 31] [] rfl rfl rfl ?_ X_fc99
   refine Tr.cD rfl (fun hc31 => ?_) (fun hc31 => ?_)
   ·
    have b12 : kd (gt s i) < 2 := by omega
    refine Tr.skip ?_
    refine hK2 _ ?_
    refine Tr.blk ?_
    refine Tr.v hcx [1000033] _ [] rfl rfl rfl ?_ X_fc99
    exact ⟨j + 1,⟨⟨by omega,by omega,rnL_ok (by omega) b3 (by omega) hr⟩,O1⟩,LT,rfl⟩
   refine Tr.exit ?_
   refine hK1 _ ?_
   refine Tr.w hcx [1000034] _ [] rfl rfl rfl ?_ X_fc99
   exact Tr.ret F_fc99
  refine Tr.w hcx [] [some 12,some 13,some 14,some 15,some 16,some 17,some 18,some 19,some 20,some 21,some 22,some 23,some 24,some 25,some 26,some 27,some 28,some 29,some 30,some 31] [] rfl rfl rfl ?_ X_fc99
  refine Tr.cF rfl ?_
  refine Tr.exit ?_
  refine hK1 _ ?_
  refine Tr.w hcx [1000034] _ [] rfl rfl rfl ?_ X_fc99
  exact Tr.ret F_fc99
 by_cases b2 : kd (gt s i) = 1
 ·
  by_cases b3 : j < s.length
  ·
   refine Tr.w hcx [] [some 12,some 13,some 14,some 15,some 16,some 17,some 18,some 19,some 20,some 21,some 22,some 23,some 24,some 25,some 26,some 27,some 28,some 29,some 30,some 31] [] rfl rfl rfl ?_ X_fc99
   refine Tr.cD rfl (fun hc31 => ?_) (fun hc31 => ?_)
   ·
    have b12 : kd (gt s i) < 2 := by omega
    refine Tr.skip ?_
    refine hK2 _ ?_
    refine Tr.blk ?_
    refine Tr.v hcx [1000033] _ [] rfl rfl rfl ?_ X_fc99
    exact ⟨j + 1,⟨⟨by omega,by omega,rnL_ok (by omega) b3 (by omega) hr⟩,O1⟩,LT,rfl⟩
   refine Tr.exit ?_
   refine hK1 _ ?_
   refine Tr.w hcx [1000034] _ [] rfl rfl rfl ?_ X_fc99
   exact Tr.ret F_fc99
  refine Tr.w hcx [] [some 12,some 13,some 14,some 15,some 16,some 17,some 18,some 19,some 20,some 21,some 22,some 23,some 24,some 25,some 26,some 27,some 28,some 29,some 30,some 31] [] rfl rfl rfl ?_ X_fc99
  refine Tr.cF rfl ?_
  refine Tr.exit ?_
  refine hK1 _ ?_
  refine Tr.w hcx [1000034] _ [] rfl rfl rfl ?_ X_fc99
  exact Tr.ret F_fc99
 refine Tr.w hcx [] [some 12,some 13,some 14,some 15,some 16,some 17,some 18,some 19,some 20,some 21,some 22,some 23,some 24,some 25,some 26,some 27,some 28,some 29,some 30,some 31] [] rfl rfl rfl ?_ X_fc99
 refine Tr.cF rfl ?_
 refine Tr.exit ?_
 refine hK1 _ ?_
 refine Tr.w hcx [1000034] _ [] rfl rfl rfl ?_ X_fc99
 exact Tr.ret F_fc99
theorem X_fc62 {p : Prop} (e : p := by intro KZ hZ; simp -implicitDefEqProofs (disch := first | omega | (simp only [go_sem,lA,lD,lT] <;> omega) | decide) only [go_sem,↓reduceIte,Nat.reduceEqDiff,reduceCtorEq,Nat.reduceLT,Nat.reduceBEq,Nat.reduceAdd,h99,h100,hno,hy]; with_reducible exact hZ) : p := e
theorem F_fc62 {p : Prop} (e : p := by simp -implicitDefEqProofs (disch := first | omega | (simp only [go_sem,lA,lD,lT] <;> omega) | decide) only [go_sem,↓reduceIte,Nat.reduceEqDiff,reduceCtorEq]; all_goals (rw [← hr]; simp [spl])) : p := e
theorem fc62 {gl : Nat → C} {M : Nat} {pu : Nat → List C → Option C} (hcx : CxOK (cxP gl M pu)) (h99 : ∀ (s : List UInt8) (i : Nat),i < s.length ∧ s.length ≤ 1000000 → pu 99 [.val (nI i),.kp [.val (str s)]] = some (.val (nI (endT s i)))) (h100 : ∀ c : UInt8,pu 100 [.val (w8 c)] = some (.val (nI (kd c)))) (hno : ∀ (g : Nat) (xs : List C),refy xs = true → pu g xs = none) (s : List UInt8) (hs : s.length ≤ 1000000) : FC Tryd.prog gl 62 [.val (str s)] [] (sl tC (.own 3) (toks s)) [] := by
 replace hcx := hcx.reN (M := 33)
 refine FC.ofA (cx := cxP gl 33 pu) (rs := [.tmp 2]) rfl Tryd.func62 rfl rfl rfl (by simp only [List.length_cons,List.length_nil]; decide) (by simp only [go_sem]) ?_
 simp only [ini,go_sem]
 have hy := True.intro
 refine Tr.w hcx [] _ [none] rfl rfl rfl ?_ X_fc62
 refine Tr.w hcx [] _ [] rfl rfl rfl ?_ X_fc62
 refine Tr.w hcx [1000007] _ [] rfl rfl rfl ?_ X_fc62
 refine Tr.seqK fun K1 hK1 => ?_
 refine Tr.w hcx [] _ [] rfl rfl rfl ?_ X_fc62
 refine Tr.k [1,3,4,5] ?_
 refine Tr.blk ?_
 refine Tr.loopI (α := (Nat × List Tok)) (fun a => [(1,?v1_1),(3,sl tC (.own 3) a.2),(4,?v4_1),(5,.val (nI a.1))]) (fun a => [some [.val (str s)]]) (fun a => a.1 ≤ s.length ∧ a.2.length ≤ a.1 ∧ a.2 ++ spl a.1 none (s.drop a.1) = toks s) (fun a => s.length - a.1) ((0,[])) ⟨Nat.zero_le _,Nat.le_refl _,rfl⟩ ?le_1 ?hh_1 ?bd_1
 case hh_1 => exact rfl
 case le_1 => exact LT
 rintro ⟨i,out⟩ ⟨hi,hlen,hr⟩
 dsimp only at *
 refine Tr.seqK fun K2 hK2 => ?_
 refine Tr.w hcx [] _ [] rfl rfl rfl ?_ X_fc62
 refine Tr.cD rfl (fun hc11 => ?_) (fun hc11 => ?_)
 ·
  refine Tr.skip ?_
  refine hK2 _ ?_
  refine Tr.blk ?_
  refine Tr.seqK fun K3 hK3 => ?_
  refine Tr.w hcx [] _ [] rfl rfl rfl ?_ X_fc62
  refine Tr.cD rfl (fun hc15 => ?_) (fun hc15 => ?_)
  ·
   have hc15 : gt s i = 32 := hc15
   refine Tr.w hcx [1000017] _ [] rfl rfl rfl ?_ X_fc62
   refine Tr.exit ?_
   refine ⟨if gt s i = 32 then (i + 1,out) else (endT s i,out ++ [⟨i,endT s i,kd (gt s i)⟩]),⟨splOK hc11 hlen hr,by have := endT_le s i hc11; split <;> simp only [] <;> omega⟩,?_,rfl⟩
   (simp only [Le_nil,Le_cons,↓A_cons,↓reduceIte,Nat.reduceEqDiff,CLe_refl,CLe_top,CLe_full,CLe_nil,CLe_own,and_true,true_and]; all_goals (repeat' first | exact CLe.refl _ | exact True.intro | (refine CLe_sln ?_; first | rfl | (simp only [List.take_zero]; done)) | exact CLe_nI (by omega) | exact CLe_int (by omega) | exact CLe_inI (by omega) | exact CLe_nIi (by omega) | with_reducible apply And.intro))
   all_goals (first | rw [if_pos hc15] | rw [if_neg hc15])
   all_goals exact CLe.refl _
  have hc15 : ¬ gt s i = 32 := hc15
  refine Tr.skip ?_
  refine hK3 _ ?_
  refine Tr.w hcx [1000020] _ [] rfl rfl rfl ?_ X_fc62
  refine Tr.k [1,3,4,5,6] ?_
  refine Tr.w hcx [21,1000030] _ [] rfl rfl rfl ?_ X_fc62
  refine Tr.v hcx [1000031] _ [] rfl rfl rfl ?_ X_fc62
  refine ⟨if gt s i = 32 then (i + 1,out) else (endT s i,out ++ [⟨i,endT s i,kd (gt s i)⟩]),⟨splOK hc11 hlen hr,by have := endT_le s i hc11; split <;> simp only [] <;> omega⟩,?_,rfl⟩
  (simp only [Le_nil,Le_cons,↓A_cons,↓reduceIte,Nat.reduceEqDiff,CLe_refl,CLe_top,CLe_full,CLe_nil,CLe_own,and_true,true_and]; all_goals (repeat' first | exact CLe.refl _ | exact True.intro | (refine CLe_sln ?_; first | rfl | (simp only [List.take_zero]; done)) | exact CLe_nI (by omega) | exact CLe_int (by omega) | exact CLe_inI (by omega) | exact CLe_nIi (by omega) | with_reducible apply And.intro))
  all_goals (first | rw [if_pos hc15] | rw [if_neg hc15])
  all_goals exact CLe.refl _
 have hie : i = s.length := by omega
 subst hie
 rw [List.drop_length] at hr
 refine Tr.exit ?_
 refine hK1 _ ?_
 refine Tr.w hcx [1000032] _ [] rfl rfl rfl ?_ X_fc62
 exact Tr.ret F_fc62
end Go.Sx
namespace Go.Sx
open Go.RowKit Go.Proofs
set_option maxRecDepth 100000
set_option maxHeartbeats 8000000
def ofKp (k : Nat) (l : List Tok) (n : Nat) : List Nat := (List.range n).filter fun i => decide ((gt l i).k = k)
theorem ofKp_len (k : Nat) (l : List Tok) (n : Nat) : (ofKp k l n).length ≤ n := by
  unfold ofKp
  have := List.length_filter_le (fun i => decide ((gt l i).k = k)) (List.range n)
  simpa using this
theorem ofKp_T {k : Nat} {l : List Tok} {n : Nat} (h : (gt l n).k = k) : ofKp k l n ++ [n] = ofKp k l (n + 1) := by
  unfold ofKp; rw [List.range_succ,List.filter_append]; simp [h]
theorem ofKp_F {k : Nat} {l : List Tok} {n : Nat} (h : ¬ (gt l n).k = k) : ofKp k l n = ofKp k l (n + 1) := by
  unfold ofKp; rw [List.range_succ,List.filter_append]; simp [h]
theorem X_fc63 {p : Prop} (e : p := by intro KZ hZ; simp -implicitDefEqProofs (disch := first | omega | (simp only [go_sem,lA,lD,lT,hb1] <;> omega) | decide) only [go_sem,↓reduceIte,Nat.reduceEqDiff,reduceCtorEq,Nat.reduceLT,Nat.reduceBEq,Nat.reduceAdd,hy]; with_reducible exact hZ) : p := e
theorem F_fc63 {p : Prop} (e : p := by simp -implicitDefEqProofs (disch := first | omega | (simp only [go_sem,lA,lD,lT,hb1] <;> omega) | decide) only [go_sem,↓reduceIte,Nat.reduceEqDiff,reduceCtorEq]; all_goals (rfl)) : p := e
theorem fc63 {gl : Nat → C} {M : Nat} {pu : Nat → List C → Option C} (hcx : CxOK (cxP gl M pu)) (l : List Tok) (k : Nat) (hl : l.length ≤ 1000000) : FC Tryd.prog gl 63 [sl tC .no l,.val (nI k)] [] (sl nC (.own 1) (ofK k l)) [] := by
 replace hcx := hcx.reN (M := 25)
 refine FC.ofA (cx := cxP gl 25 pu) (rs := [.tmp 4]) rfl Tryd.func63 rfl rfl rfl (by simp only [List.length_cons,List.length_nil]; decide) (by simp only [go_sem]) ?_
 simp only [ini,go_sem]
 have hy := True.intro
 have hb1 := True.intro
 refine Tr.w hcx [] _ [] rfl rfl rfl ?_ X_fc63
 refine Tr.w hcx [] _ [] rfl rfl rfl ?_ X_fc63
 refine Tr.seqK fun K1 hK1 => ?_
 refine Tr.w hcx [] _ [] rfl rfl rfl ?_ X_fc63
 refine Tr.k [1,5,8,9,10] ?_
 refine Tr.blk ?_
 refine Tr.loopI (α := Nat) (fun a => [(1,?v1_1),(5,sl nC (.own 1) (ofKp k l a)),(8,?v8_1),(9,?v9_1),(10,.val (nI a))]) (fun a => []) (fun a => a ≤ l.length) (fun a => l.length - a) (0) ?_ ?le_1 ?hh_1 ?bd_1
 case hh_1 => exact rfl
 case le_1 => exact LT
 · omega
 rintro i hi
 have hb1 := ofKp_len k l i
 refine Tr.w hcx [] _ [] rfl rfl rfl ?_ X_fc63
 refine Tr.seqK fun K2 hK2 => ?_
 refine Tr.cD rfl (fun hc11 => ?_) (fun hc11 => ?_)
 ·
  refine Tr.skip ?_
  refine hK2 _ ?_
  refine Tr.seqK fun K3 hK3 => ?_
  refine Tr.blk ?_
  refine Tr.w hcx [1000012] _ [none] rfl rfl rfl ?_ X_fc63
  refine Tr.w hcx [] _ [] rfl rfl rfl ?_ X_fc63
  refine Tr.cD rfl (fun hc18 => ?_) (fun hc18 => ?_)
  ·
   refine Tr.v hcx [19,1000022] _ [] rfl rfl rfl ?_ X_fc63
   refine hK3 _ ?_
   refine Tr.k [1,5,8,9,10] ?_
   refine Tr.m1 hcx [] ?_
   refine Tr.v hcx [] _ [] rfl rfl rfl ?_ X_fc63
   refine ⟨i + 1,⟨by omega,O1⟩,?_,rfl⟩
   (simp only [Le_nil,Le_cons,↓A_cons,↓reduceIte,Nat.reduceEqDiff,CLe_refl,CLe_top,CLe_full,CLe_nil,CLe_own,and_true,true_and]; all_goals (repeat' first | exact CLe.refl _ | exact True.intro | (refine CLe_sln ?_; first | rfl | (simp only [List.take_zero]; done)) | exact CLe_nI (by omega) | exact CLe_int (by omega) | exact CLe_inI (by omega) | exact CLe_nIi (by omega) | with_reducible apply And.intro))
   all_goals (refine CLe_sl ?_; first | exact ofKp_T hc18 | exact ofKp_F hc18)
  refine Tr.skip ?_
  refine hK3 _ ?_
  refine Tr.k [1,5,8,9,10] ?_
  refine Tr.m1 hcx [] ?_
  refine Tr.v hcx [] _ [] rfl rfl rfl ?_ X_fc63
  refine ⟨i + 1,⟨by omega,O1⟩,?_,rfl⟩
  (simp only [Le_nil,Le_cons,↓A_cons,↓reduceIte,Nat.reduceEqDiff,CLe_refl,CLe_top,CLe_full,CLe_nil,CLe_own,and_true,true_and]; all_goals (repeat' first | exact CLe.refl _ | exact True.intro | (refine CLe_sln ?_; first | rfl | (simp only [List.take_zero]; done)) | exact CLe_nI (by omega) | exact CLe_int (by omega) | exact CLe_inI (by omega) | exact CLe_nIi (by omega) | with_reducible apply And.intro))
  all_goals (refine CLe_sl ?_; first | exact ofKp_T hc18 | exact ofKp_F hc18)
 obtain rfl : i = l.length := by omega
 refine Tr.exit ?_
 refine hK1 _ ?_
 refine Tr.w hcx [1000024] _ [] rfl rfl rfl ?_ X_fc63
 exact Tr.ret F_fc63
end Go.Sx
namespace Go.Sx
open Go.RowKit Go.Proofs
set_option maxRecDepth 100000
set_option maxHeartbeats 8000000
theorem ofK_len (k : Nat) (l : List Tok) : (ofK k l).length ≤ l.length := ofKp_len k l l.length
theorem X_fc16 {p : Prop} (e : p := by intro KZ hZ; simp -implicitDefEqProofs (disch := first | omega | (simp only [go_sem,lA,lD,lT] <;> omega) | decide) only [go_sem,↓reduceIte,Nat.reduceEqDiff,reduceCtorEq,Nat.reduceLT,Nat.reduceBEq,Nat.reduceAdd,h62,h63,hy]; with_reducible exact hZ) : p := e
theorem F_fc16 {p : Prop} (e : p := by simp -implicitDefEqProofs (disch := first | omega | (simp only [go_sem,lA,lD,lT] <;> omega) | decide) only [go_sem,↓reduceIte,Nat.reduceEqDiff,reduceCtorEq]; all_goals (rfl)) : p := e
theorem fc16 {gl : Nat → C} {M : Nat} {pu : Nat → List C → Option C} (hcx : CxOK (cxP gl M pu)) (h62 : ∀ s : List UInt8,s.length ≤ 1000000 → pu 62 [.val (str s)] = some (sl tC (.own 3) (toks s))) (h63 : ∀ (l : List Tok) (k : Nat),l.length ≤ 1000000 → pu 63 [sl tC .no l,.val (nI k)] = some (sl nC (.own 1) (ofK k l))) (s : List UInt8) (hs : s.length ≤ 1000000) : FC Tryd.prog gl 16 [.val (str s)] [] (sl nC (.own 1) (marksT s)) [] := by
 replace hcx := hcx.reN (M := 6)
 refine FC.ofA (cx := cxP gl 6 pu) (rs := [.tmp 2]) rfl Tryd.func16 rfl rfl rfl (by simp only [List.length_cons,List.length_nil]; decide) (by simp only [go_sem]) ?_
 simp only [ini,go_sem]
 have hy := True.intro
 have hT := toks_len s
 refine Tr.w hcx [] _ [] rfl rfl rfl ?_ X_fc16
 refine Tr.w hcx [1000005] _ [] rfl rfl rfl ?_ X_fc16
 exact Tr.ret F_fc16
end Go.Sx
namespace Go.Sx
open Go.RowKit Go.Proofs
set_option maxRecDepth 100000
set_option maxHeartbeats 8000000
theorem bad_T {s : List UInt8} {i : Nat} (h : i < s.length) (hb : badAt s i = true) : bad s = true := List.any_eq_true.2 ⟨i,List.mem_range.2 h,hb⟩
theorem bad_F {s : List UInt8} (h : ∀ j,j < s.length → badAt s j = false) : ¬ bad s = true := by
  intro hb
  obtain ⟨i,h1,h2⟩ := List.any_eq_true.1 hb
  rw [h i (List.mem_range.1 h1)] at h2; cases h2
theorem X_fc61 {p : Prop} (e : p := by intro KZ hZ; simp -implicitDefEqProofs (disch := first | omega | (simp only [go_sem,lA,lD,lT] <;> omega) | decide) only [go_sem,↓reduceIte,Nat.reduceEqDiff,reduceCtorEq,Nat.reduceLT,Nat.reduceBEq,Nat.reduceAdd,b1,b2,b3,b4,b5,hy]; with_reducible exact hZ) : p := e
theorem F_fc61 {p : Prop} (e : p := by simp -implicitDefEqProofs (disch := first | omega | (simp only [go_sem,lA,lD,lT] <;> omega) | decide) only [go_sem,↓reduceIte,Nat.reduceEqDiff,reduceCtorEq]; all_goals (exact congrArg (fun z => some (C.val (.bool z))) (by unfold badAt; simp_all <;> omega))) : p := e
theorem fc61 {gl : Nat → C} {M : Nat} {pu : Nat → List C → Option C} (hcx : CxOK (cxP gl M pu)) (s : List UInt8) (i : Nat) (hs : i < s.length ∧ s.length ≤ 1000000) : FC Tryd.prog gl 61 [.val (nI i),.kp [.val (str s)]] [] (.val (.bool (badAt s i))) [] := by
 replace hcx := hcx.reN (M := 38)
 refine FC.ofA (cx := cxP gl 38 pu) (rs := [.tmp 3]) rfl Tryd.func61 rfl rfl rfl (by simp only [List.length_cons,List.length_nil]; decide) (by simp only [go_sem]) ?_
 simp only [ini,go_sem]
 have b1 := True.intro
 have b2 := True.intro
 have b3 := True.intro
 have b4 := True.intro
 have b5 := True.intro
 have hy := True.intro
 refine Tr.w hcx [] _ [] rfl rfl rfl ?_ X_fc61
 refine Tr.k [0,1] ?_
 by_cases b1 : gt s i < UInt8.ofNat 32
 ·
  refine Tr.w hcx [1000037] [some 4,some 5,some 6,some 7,some 8,some 9,some 10,some 11,some 12,some 13,some 14,some 15,some 16,some 17,some 18,some 19,some 20,some 21,some 22,some 23,some 24,some 25,some 26,some 27,some 28,some 29,some 30,some 31,some 32,some 33,some 34,some 35,some 36,some 37,some 3] [] rfl rfl rfl ?_ X_fc61
  refine Tr.k [3] ?_
  exact Tr.ret F_fc61
 by_cases b2 : UInt8.ofNat 126 < gt s i
 ·
  refine Tr.w hcx [1000037] [some 4,some 5,some 6,some 7,some 8,some 9,some 10,some 11,some 12,some 13,some 14,some 15,some 16,some 17,some 18,some 19,some 20,some 21,some 22,some 23,some 24,some 25,some 26,some 27,some 28,some 29,some 30,some 31,some 32,some 33,some 34,some 35,some 36,some 37,some 3] [] rfl rfl rfl ?_ X_fc61
  refine Tr.k [3] ?_
  exact Tr.ret F_fc61
 by_cases b3 : gt s i = UInt8.ofNat 32
 ·
  have b3o := b3
  replace b3 := eq_true b3
  by_cases b4 : i = 0
  ·
   have b4o := b4
   replace b4 := eq_true b4
   refine Tr.w hcx [1000037] [some 4,some 5,some 6,some 7,some 8,some 9,some 10,some 11,some 12,some 13,some 14,some 15,some 16,some 17,some 18,some 19,some 20,some 21,some 22,some 23,some 24,some 25,some 26,some 27,some 28,some 29,some 30,some 31,some 32,some 33,some 34,some 35,some 36,some 37,some 3] [] rfl rfl rfl ?_ X_fc61
   refine Tr.k [3] ?_
   exact Tr.ret F_fc61
  have b4o := b4
  replace b4 := eq_false b4
  by_cases b5 : i = s.length - 1
  ·
   have b5o := b5
   replace b5 := eq_true b5
   refine Tr.w hcx [1000037] [some 4,some 5,some 6,some 7,some 8,some 9,some 10,some 11,some 12,some 13,some 14,some 15,some 16,some 17,some 18,some 19,some 20,some 21,some 22,some 23,some 24,some 25,some 26,some 27,some 28,some 29,some 30,some 31,some 32,some 33,some 34,some 35,some 36,some 37,some 3] [] rfl rfl rfl ?_ X_fc61
   refine Tr.k [3] ?_
   exact Tr.ret F_fc61
  have b5o := b5
  replace b5 := eq_false b5
  refine Tr.w hcx [1000037] [some 4,some 5,some 6,some 7,some 8,some 9,some 10,some 11,some 12,some 13,some 14,some 15,some 16,some 17,some 18,some 19,some 20,some 21,some 22,some 23,some 24,some 25,some 26,some 27,some 28,some 29,some 30,some 31,some 32,some 33,some 34,some 35,some 36,some 37,some 3] [] rfl rfl rfl ?_ X_fc61
  refine Tr.k [3] ?_
  exact Tr.ret F_fc61
 have b3o := b3
 replace b3 := eq_false b3
 refine Tr.w hcx [1000037] [some 4,some 5,some 6,some 7,some 8,some 9,some 10,some 11,some 12,some 13,some 14,some 15,some 16,some 17,some 18,some 19,some 20,some 21,some 22,some 23,some 24,some 25,some 26,some 27,some 28,some 29,some 30,some 31,some 32,some 33,some 34,some 35,some 36,some 37,some 3] [] rfl rfl rfl ?_ X_fc61
 refine Tr.k [3] ?_
 exact Tr.ret F_fc61
theorem X_fc15 {p : Prop} (e : p := by intro KZ hZ; simp -implicitDefEqProofs (disch := first | omega | (simp only [go_sem,lA,lD,lT] <;> omega) | decide) only [go_sem,↓reduceIte,Nat.reduceEqDiff,reduceCtorEq,Nat.reduceLT,Nat.reduceBEq,Nat.reduceAdd,h62,h61,hno,hy]; with_reducible exact hZ) : p := e
theorem F_fc15 {p : Prop} (e : p := by simp -implicitDefEqProofs (disch := first | omega | (simp only [go_sem,lA,lD,lT] <;> omega) | decide) only [go_sem,↓reduceIte,Nat.reduceEqDiff,reduceCtorEq]; all_goals (exact congrArg (fun z => some (C.val (nI z))) (by unfold validE; first | rw [if_pos hc7] | rw [if_neg hc7,if_pos (bad_T hc12 hc16)] | rw [if_neg hc7,if_neg (bad_F hA),if_pos hc18] | rw [if_neg hc7,if_neg (bad_F hA),if_neg hc18,if_pos hc21] | rw [if_neg hc7,if_neg (bad_F hA),if_neg hc18,if_neg hc21]))) : p := e
theorem fc15 {gl : Nat → C} {M : Nat} {pu : Nat → List C → Option C} (hcx : CxOK (cxP gl M pu)) (h62 : ∀ s : List UInt8,s.length ≤ 1000000 → pu 62 [.val (str s)] = some (sl tC (.own 3) (toks s))) (h61 : ∀ (s : List UInt8) (i : Nat),i < s.length ∧ s.length ≤ 1000000 → pu 61 [.val (nI i),.kp [.val (str s)]] = some (.val (.bool (badAt s i)))) (hno : ∀ (g : Nat) (xs : List C),refy xs = true → pu g xs = none) (s : List UInt8) (hs : s.length ≤ 1000000) : FC Tryd.prog gl 15 [.val (str s)] [] (.val (nI (validE s))) [] := by
 replace hcx := hcx.reN (M := 26)
 refine FC.ofA (cx := cxP gl 26 pu) (rs := [.tmp 2]) rfl Tryd.func15 rfl rfl rfl (by simp only [List.length_cons,List.length_nil]; decide) (by simp only [go_sem]) ?_
 simp only [ini,go_sem]
 have hy := True.intro
 have hT := toks_len s
 refine Tr.w hcx [] _ [none] rfl rfl rfl ?_ X_fc15
 refine Tr.seqK fun K1 hK1 => ?_
 refine Tr.w hcx [] _ [] rfl rfl rfl ?_ X_fc15
 refine Tr.cD rfl (fun hc7 => ?_) (fun hc7 => ?_)
 ·
  refine Tr.w hcx [] _ [] rfl rfl rfl ?_ X_fc15
  exact Tr.ret F_fc15
 refine Tr.skip ?_
 refine hK1 _ ?_
 refine Tr.w hcx [1000008] _ [] rfl rfl rfl ?_ X_fc15
 refine Tr.seqK fun K2 hK2 => ?_
 refine Tr.w hcx [] _ [] rfl rfl rfl ?_ X_fc15
 refine Tr.k [1,3,10,11] ?_
 refine Tr.blk ?_
 refine Tr.loopI (α := Nat) (fun a => [(1,?v1_1),(3,?v3_1),(10,?v10_1),(11,.val (nI a))]) (fun a => [some [.val (str s)]]) (fun a => a ≤ s.length ∧ ∀ j,j < a → badAt s j = false) (fun a => s.length - a) (0) ⟨Nat.zero_le _,fun j hj => absurd hj (Nat.not_lt_zero j)⟩ ?le_1 ?hh_1 ?bd_1
 case hh_1 => exact rfl
 case le_1 => exact LT
 rintro i ⟨hi,hA⟩
 refine Tr.w hcx [] _ [] rfl rfl rfl ?_ X_fc15
 refine Tr.seqK fun K3 hK3 => ?_
 refine Tr.cD rfl (fun hc12 => ?_) (fun hc12 => ?_)
 ·
  refine Tr.skip ?_
  refine hK3 _ ?_
  refine Tr.seqK fun K4 hK4 => ?_
  refine Tr.blk ?_
  refine Tr.w hcx [1000013] _ [] rfl rfl rfl ?_ X_fc15
  refine Tr.w hcx [] _ [] rfl rfl rfl ?_ X_fc15
  refine Tr.condG fun KT KF hT hF => ?_
  simp only [ev_tmp,ev_const,↓A_cons,↓reduceIte,Nat.reduceEqDiff,reduceCtorEq,condG_bool,GB_true,GB_false,decide_eq_true_eq]
  refine GB.mk (fun hc16 => hT ?_) (fun hc16 => hF ?_)
  ·
   refine Tr.w hcx [] _ [] rfl rfl rfl ?_ X_fc15
   exact Tr.ret F_fc15
  refine Tr.skip ?_
  refine hK4 _ ?_
  refine Tr.v hcx [] _ [] rfl rfl rfl ?_ X_fc15
  exact ⟨i + 1,⟨⟨by omega,fun j hj => (Nat.lt_or_eq_of_le (Nat.le_of_lt_succ hj)).elim (hA j) (fun e => e ▸ hc16)⟩,O1⟩,LT,rfl⟩
 obtain rfl : i = s.length := by omega
 refine Tr.exit ?_
 refine hK2 _ ?_
 refine Tr.seqK fun K5 hK5 => ?_
 refine Tr.blk ?_
 refine Tr.w hcx [1000020] _ [] rfl rfl rfl ?_ X_fc15
 refine Tr.cD rfl (fun hc18 => ?_) (fun hc18 => ?_)
 ·
  refine Tr.w hcx [] _ [] rfl rfl rfl ?_ X_fc15
  exact Tr.ret F_fc15
 refine Tr.w hcx [1000025] _ [] rfl rfl rfl ?_ X_fc15
 refine Tr.cD rfl (fun hc21 => ?_) (fun hc21 => ?_)
 ·
  refine Tr.w hcx [] _ [] rfl rfl rfl ?_ X_fc15
  exact Tr.ret F_fc15
 refine Tr.skip ?_
 refine hK5 _ ?_
 refine Tr.w hcx [] _ [] rfl rfl rfl ?_ X_fc15
 exact Tr.ret F_fc15
end Go.Sx
namespace Go.Sx
def aroundI (n : Int) (m : Nat) : Nat := ((if n < 0 then -(n + 1) else n).tmod (m : Int)).toNat
theorem around_int (n : Int) (m : Nat) : (((aroundI n m : Nat) : Int)) = (if n < 0 then -(n + 1) else n).tmod (m : Int) := by
  unfold aroundI
  refine Int.toNat_of_nonneg (Int.tmod_nonneg _ ?_)
  split <;> omega
theorem around_lt (n : Int) {m : Nat} (h : 0 < m) : aroundI n m < m := by
  have h1 := around_int n m
  have h2 := Int.tmod_lt_of_pos (if n < 0 then -(n + 1) else n) (b := (m : Int)) (by omega)
  omega
def atI (l : List Int) (i m : Nat) : Nat := if l.length ≤ i then 0 else aroundI (gt l i) m
theorem atI_lt (l : List Int) (i : Nat) {m : Nat} (h : 0 < m) : atI l i m < m := by
  unfold atI; split
  · exact h
  · exact around_lt _ h
def capC (c : UInt8) : UInt8 := if 97 ≤ c ∧ c ≤ 122 then c - 97 + 65 else c
def capT : List UInt8 → List UInt8
  | [] => []
  | c :: r => capC c :: r
def dresT (w : List UInt8) (n : Nat) : List UInt8 :=
  if n = 6 then capT w else if n = 7 then w ++ [44] else if n = 8 then w ++ [46] else if n = 9 then capT w ++ [46] else if n = 10 then [40] ++ w ++ [41] else if n = 11 then w ++ [63] else w
def wlist : List (List UInt8) := [[97,110,110,97],[114,111,109,101],[107,105,110,103],[116,104,101],[111,102],[111,100,101],[108,121,114,101],[120],[49,50]]
def uniT (n : Nat) : List UInt8 := dresT (gt wlist (n % 9)) (n / 9)
def textR (l : List Int) (k : Nat) : Nat → List UInt8
  | 0 => []
  | i + 1 => (if 0 < i then textR l k i ++ [32] else textR l k i) ++ uniT (atI l (k + 1 + i) 108)
def textT (l : List Int) (k : Nat) : List UInt8 := textR l k (1 + atI l k 9)
theorem gt_all {α : Type} [Inhabited α] (l : List α) (p : α → Bool) (h : l.all p = true) (i : Nat) (hi : i < l.length) : p (gt l i) = true := by
  have e : gt l i = l[i] := by simp [gt,List.getD,List.getElem?_eq_getElem hi]
  rw [e]; exact List.all_eq_true.1 h _ (List.getElem_mem hi)
def okT (p : Bool) : List UInt8 → Bool
  | [] => !p
  | c :: r => if c = 32 then !p && okT true r else decide (32 ≤ c) && decide (c ≤ 126) && okT false r
theorem okT_unit : (List.range 108).all (fun n => okT true (uniT n) && decide ((uniT n).length ≤ 7) && decide (0 < (uniT n).length)) = true := by decide +kernel
theorem okT_app : ∀ (x : List UInt8) (p : Bool) (y : List UInt8),okT p x = true → okT true y = true → okT p (x ++ 32 :: y) = true
  | [],p,y,hx,hy => by
    simp only [okT,Bool.not_eq_true'] at hx; subst hx
    simp only [List.nil_append,okT,if_pos,Bool.not_false,Bool.true_and,hy]
  | c :: r,p,y,hx,hy => by
    simp only [okT,List.cons_append] at hx ⊢
    by_cases hc : c = 32
    · rw [if_pos hc] at hx ⊢
      simp only [Bool.and_eq_true] at hx ⊢
      exact ⟨hx.1,okT_app r true y hx.2 hy⟩
    · rw [if_neg hc] at hx ⊢
      simp only [Bool.and_eq_true] at hx ⊢
      exact ⟨hx.1,okT_app r false y hx.2 hy⟩
theorem unit_ok (n : Nat) (h : n < 108) : okT true (uniT n) = true ∧ (uniT n).length ≤ 7 ∧ 0 < (uniT n).length := by
  have := List.all_eq_true.1 okT_unit n (List.mem_range.2 h)
  simp only [Bool.and_eq_true,decide_eq_true_eq] at this
  exact ⟨this.1.1,this.1.2,this.2⟩
theorem textR_ok (l : List Int) (k : Nat) : ∀ i,0 < i → okT true (textR l k i) = true ∧ (textR l k i).length ≤ 8 * i ∧ 0 < (textR l k i).length
  | 0,h => absurd h (Nat.lt_irrefl 0)
  | 1,_ => by
    have := unit_ok (atI l (k + 1 + 0) 108) (atI_lt _ _ (by decide))
    have e : textR l k 1 = uniT (atI l (k + 1 + 0) 108) := by simp [textR]
    rw [e]; exact ⟨this.1,by omega,this.2.2⟩
  | i + 2,_ => by
    obtain ⟨h1,h2,h3⟩ := textR_ok l k (i + 1) (by omega)
    have u := unit_ok (atI l (k + 1 + (i + 1)) 108) (atI_lt _ _ (by decide))
    have e : textR l k (i + 2) = textR l k (i + 1) ++ 32 :: uniT (atI l (k + 1 + (i + 1)) 108) := by
      rw [textR,if_pos (by omega)]; simp
    rw [e]
    exact ⟨okT_app _ _ _ h1 u.1,by simp; omega,by simp; omega⟩
theorem textR_len (l : List Int) (k i : Nat) : (textR l k i).length ≤ 8 * i := by
  cases i with
  | zero => simp [textR]
  | succ i => exact (textR_ok l k (i + 1) (by omega)).2.1
theorem textT_ok (l : List Int) (k : Nat) : okT true (textT l k) = true ∧ (textT l k).length ≤ 72 ∧ 0 < (textT l k).length := by
  have h := atI_lt l k (m := 9) (by decide)
  have := textR_ok l k (1 + atI l k 9) (by omega)
  unfold textT
  exact ⟨this.1,by omega,this.2.2⟩
end Go.Sx
namespace Go.Sx
open Go.RowKit Go.Proofs
set_option maxRecDepth 100000
set_option maxHeartbeats 8000000
def LI (l : List Int) : Prop := l.length ≤ 9223372036854775807 ∧ ∀ i,i < l.length → -9223372036854775808 ≤ gt l i ∧ gt l i ≤ 9223372036854775807
theorem capC_T {c : UInt8} (h1 : UInt8.ofNat 97 ≤ c) (h2 : c ≤ UInt8.ofNat 122) : c - UInt8.ofNat 97 + UInt8.ofNat 65 = capC c := by
  unfold capC; exact (if_pos (c := 97 ≤ c ∧ c ≤ 122) ⟨h1,h2⟩).symm
theorem capC_F {c : UInt8} (h : ¬ (UInt8.ofNat 97 ≤ c ∧ c ≤ UInt8.ofNat 122)) : c = capC c := by
  unfold capC; exact (if_neg h).symm
theorem capT_set {w : List UInt8} (h : 0 < w.length) : w.set 0 (capC (gt w 0)) = capT w := by
  cases w with
  | nil => simp at h
  | cons c r => rfl
theorem capT_F {w : List UInt8} (h : ¬ (UInt8.ofNat 97 ≤ gt w 0 ∧ gt w 0 ≤ UInt8.ofNat 122)) : w = capT w := by
  cases w with
  | nil => rfl
  | cons c r => exact congrArg (fun z => z :: r) (capC_F h)
theorem capT_len (w : List UInt8) : (capT w).length = w.length := by cases w <;> rfl
theorem str_cong {x y : List UInt8} (h : x = y) : (some (C.val (str x))) = some (C.val (str y)) := by rw [h]
theorem wl_len (i : Nat) : (gt wlist i).length ≤ 4 := by
  by_cases h : i < 9
  · have := gt_all wlist (fun c => decide (c.length ≤ 4)) (by decide) i h
    simpa using this
  · have e : gt wlist i = [] := by
      unfold gt List.getD; rw [List.getElem?_eq_none (by show 9 ≤ i; omega)]; rfl
    rw [e]; decide
theorem wlist_mk : sl sC .full ((((((((((List.replicate 9 []).set 0 [97,110,110,97]).set 1 [114,111,109,101]).set 2 [107,105,110,103]).set 3 [116,104,101]).set 4 [111,102]).set 5 [111,100,101]).set 6 [108,121,114,101]).set 7 [120]).set 8 [49,50]) = sl sC .full wlist := rfl
theorem wlist_ln : wlist.length = 9 := rfl
theorem textR_T (l : List Int) (k i : Nat) (h : 0 < i) : textR l k (i + 1) = textR l k i ++ [32] ++ uniT (atI l (k + 1 + i) 108) := by rw [textR,if_pos h]
theorem textR_F (l : List Int) (k i : Nat) (h : ¬ 0 < i) : textR l k (i + 1) = textR l k i ++ uniT (atI l (k + 1 + i) 108) := by rw [textR,if_neg h]
theorem dres_len (w : List UInt8) (n : Nat) : (dresT w n).length ≤ w.length + 2 := by
  unfold dresT
  repeat' split
  all_goals (try simp only [List.length_append,List.length_cons,List.length_nil,capT_len])
  all_goals omega
theorem X_fc19 {p : Prop} (e : p := by intro KZ hZ; simp -implicitDefEqProofs (disch := first | omega | (simp only [go_sem,lA,lD,lT] <;> omega) | decide) only [go_sem,↓reduceIte,Nat.reduceEqDiff,reduceCtorEq,Nat.reduceLT,Nat.reduceBEq,Nat.reduceAdd,hy]; with_reducible exact hZ) : p := e
theorem F_fc19 {p : Prop} (e : p := by simp -implicitDefEqProofs (disch := first | omega | (simp only [go_sem,lA,lD,lT] <;> omega) | decide) only [go_sem,↓reduceIte,Nat.reduceEqDiff,reduceCtorEq]; all_goals (exact congrArg (fun z => some (C.val (.int .i64 z))) (by rw [around_int]; first | (rw [if_pos (by omega)]; rfl) | rw [if_neg (by omega)]))) : p := e
theorem fc19 {gl : Nat → C} {M : Nat} {pu : Nat → List C → Option C} (hcx : CxOK (cxP gl M pu)) (n : Int) (m : Nat) (hn : -9223372036854775808 ≤ n ∧ n ≤ 9223372036854775807 ∧ 0 < m ∧ m ≤ 9223372036854775807) : FC Tryd.prog gl 19 [.val (.int .i64 n),.val (nI m)] [] (.val (nI (aroundI n m))) [] := by
 replace hcx := hcx.reN (M := 13)
 refine FC.ofA (cx := cxP gl 13 pu) (rs := [.tmp 4]) rfl Tryd.func19 rfl rfl rfl (by simp only [List.length_cons,List.length_nil]; decide) (by simp only [go_sem]) ?_
 simp only [ini,go_sem]
 have hy := True.intro
 refine Tr.w hcx [] _ [] rfl rfl rfl ?_ X_fc19
 refine Tr.seqK fun K1 hK1 => ?_
 refine Tr.w hcx [] _ [] rfl rfl rfl ?_ X_fc19
 refine Tr.cD rfl (fun hc6 => ?_) (fun hc6 => ?_)
 ·
  refine Tr.v hcx [1000009] _ [] rfl rfl rfl ?_ X_fc19
  refine hK1 _ ?_
  refine Tr.w hcx [1000012] _ [] rfl rfl rfl ?_ X_fc19
  exact Tr.ret F_fc19
 refine Tr.skip ?_
 refine hK1 _ ?_
 refine Tr.w hcx [1000012] _ [] rfl rfl rfl ?_ X_fc19
 exact Tr.ret F_fc19
theorem X_fc65 {p : Prop} (e : p := by intro KZ hZ; simp -implicitDefEqProofs (disch := first | omega | (simp only [go_sem,lA,lD,lT] <;> omega) | decide) only [go_sem,↓reduceIte,Nat.reduceEqDiff,reduceCtorEq,Nat.reduceLT,Nat.reduceBEq,Nat.reduceAdd,h19,Nat.not_lt_zero,hy]; with_reducible exact hZ) : p := e
theorem F_fc65 {p : Prop} (e : p := by simp -implicitDefEqProofs (disch := first | omega | (simp only [go_sem,lA,lD,lT] <;> omega) | decide) only [go_sem,↓reduceIte,Nat.reduceEqDiff,reduceCtorEq]; all_goals (exact congrArg (fun z => some (C.val (nI z))) (by unfold atI; first | rw [if_pos hc14] | rw [if_neg hc14]))) : p := e
theorem fc65 {gl : Nat → C} {M : Nat} {pu : Nat → List C → Option C} (hcx : CxOK (cxP gl M pu)) (h19 : ∀ (n : Int) (m : Nat),-9223372036854775808 ≤ n ∧ n ≤ 9223372036854775807 ∧ 0 < m ∧ m ≤ 9223372036854775807 → pu 19 [.val (.int .i64 n),.val (nI m)] = some (.val (nI (aroundI n m)))) (l : List Int) (i m : Nat) (hl : LI l) (hi : i ≤ 1000000) (hm : 0 < m ∧ m ≤ 9223372036854775807) : FC Tryd.prog gl 65 [sl iC .no l,.val (nI i),.val (nI m)] [] (.val (nI (atI l i m))) [] := by
 replace hcx := hcx.reN (M := 21)
 refine FC.ofA (cx := cxP gl 21 pu) (rs := [.tmp 6]) rfl Tryd.func65 rfl rfl rfl (by simp only [List.length_cons,List.length_nil]; decide) (by simp only [go_sem]) ?_
 simp only [ini,go_sem]
 have hy := True.intro
 have hl1 := hl.1
 refine Tr.w hcx [] _ [] rfl rfl rfl ?_ X_fc65
 refine Tr.seqK fun K1 hK1 => ?_
 refine Tr.w hcx [] [some 7,some 8,some 9,some 10,some 11,some 12,some 13,some 14] [] rfl rfl rfl ?_ X_fc65
 refine Tr.cD rfl (fun hc14 => ?_) (fun hc14 => ?_)
 ·
  refine Tr.w hcx [] _ [] rfl rfl rfl ?_ X_fc65
  exact Tr.ret F_fc65
 have hb1 := hl.2 i (by omega)
 refine Tr.skip ?_
 refine hK1 _ ?_
 refine Tr.w hcx [1000020] _ [] rfl rfl rfl ?_ X_fc65
 exact Tr.ret F_fc65
theorem X_fc121 {p : Prop} (e : p := by intro KZ hZ; simp -implicitDefEqProofs (disch := first | omega | (simp only [go_sem,lA,lD,lT] <;> omega) | decide) only [go_sem,↓reduceIte,Nat.reduceEqDiff,reduceCtorEq,Nat.reduceLT,Nat.reduceBEq,Nat.reduceAdd,Nat.zero_add,Nat.mul_one,Nat.zero_mul,b1,b2,b3,hy]; with_reducible exact hZ) : p := e
theorem F_fc121 {p : Prop} (e : p := by simp -implicitDefEqProofs (disch := first | omega | (simp only [go_sem,lA,lD,lT] <;> omega) | decide) only [go_sem,↓reduceIte,Nat.reduceEqDiff,reduceCtorEq]; all_goals (first | exact str_cong (by rw [capC_T b2 b3,capT_set b1,List.take_of_length_le (by rw [capT_len]; exact Nat.le_refl _)]) | exact str_cong (by rw [← capT_F (by intro hh; first | exact b2 hh.1 | exact b3 hh.2),List.take_length]) | exact str_cong (by cases w with | nil => rfl | cons c r => exact absurd (Nat.succ_pos _) b1))) : p := e
theorem fc121 {gl : Nat → C} {M : Nat} {pu : Nat → List C → Option C} (hcx : CxOK (cxP gl M pu)) (w : List UInt8) (hw : w.length ≤ 1000000) : FC Tryd.prog gl 121 [.val (str w)] [] (.val (str (capT w))) [] := by
 replace hcx := hcx.reN (M := 30)
 refine FC.ofA (cx := cxP gl 30 pu) (rs := [.tmp 2]) rfl Tryd.func121 rfl rfl rfl (by simp only [List.length_cons,List.length_nil]; decide) (by simp only [go_sem]) ?_
 simp only [ini,go_sem]
 have b1 := True.intro
 have b2 := True.intro
 have b3 := True.intro
 have hy := True.intro
 refine Tr.w hcx [] _ [] rfl rfl rfl ?_ X_fc121
 refine Tr.wG hcx [5] [1000005] _ [] rfl rfl rfl ?_ X_fc121
 refine Tr.seqK fun K1 hK1 => ?_
 by_cases b1 : 0 < w.length
 ·
  by_cases b2 : UInt8.ofNat 97 ≤ gt w 0
  ·
   by_cases b3 : gt w 0 ≤ UInt8.ofNat 122
   ·
    refine Tr.w hcx [] [some 6,some 7,some 8,some 9,some 10,some 11,some 12,some 13,some 14,some 15,some 16,some 17,some 18,some 19,some 20] [] rfl rfl rfl ?_ X_fc121
    refine Tr.cT rfl ?_
    refine Tr.v hcx [] _ [] rfl rfl rfl ?_ X_fc121
    refine hK1 _ ?_
    refine Tr.k [3] ?_
    refine Tr.w hcx [1000029] _ [] rfl rfl rfl ?_ X_fc121
    exact Tr.ret F_fc121
   refine Tr.w hcx [] [some 6,some 7,some 8,some 9,some 10,some 11,some 12,some 13,some 14,some 15,some 16,some 17,some 18,some 19,some 20] [] rfl rfl rfl ?_ X_fc121
   refine Tr.cF rfl ?_
   refine Tr.skip ?_
   refine hK1 _ ?_
   refine Tr.w hcx [1000029] _ [] rfl rfl rfl ?_ X_fc121
   exact Tr.ret F_fc121
  refine Tr.w hcx [] [some 6,some 7,some 8,some 9,some 10,some 11,some 12,some 13,some 14,some 15,some 16,some 17,some 18,some 19,some 20] [] rfl rfl rfl ?_ X_fc121
  refine Tr.cF rfl ?_
  refine Tr.skip ?_
  refine hK1 _ ?_
  refine Tr.w hcx [1000029] _ [] rfl rfl rfl ?_ X_fc121
  exact Tr.ret F_fc121
 refine Tr.w hcx [] [some 6,some 7,some 8,some 9,some 10,some 11,some 12,some 13,some 14,some 15,some 16,some 17,some 18,some 19,some 20] [] rfl rfl rfl ?_ X_fc121
 refine Tr.cF rfl ?_
 refine Tr.skip ?_
 refine hK1 _ ?_
 refine Tr.w hcx [1000029] _ [] rfl rfl rfl ?_ X_fc121
 exact Tr.ret F_fc121
theorem X_fc101 {p : Prop} (e : p := by intro KZ hZ; simp -implicitDefEqProofs (disch := first | omega | (simp only [go_sem,lA,lD,lT,capT_len] <;> omega) | decide) only [go_sem,↓reduceIte,Nat.reduceEqDiff,reduceCtorEq,Nat.reduceLT,Nat.reduceBEq,Nat.reduceAdd,h121,hy]; with_reducible exact hZ) : p := e
theorem F_fc101 {p : Prop} (e : p := by simp -implicitDefEqProofs (disch := first | omega | (simp only [go_sem,lA,lD,lT,capT_len] <;> omega) | decide) only [go_sem,↓reduceIte,Nat.reduceEqDiff,reduceCtorEq]; all_goals (exact str_cong (by unfold dresT; simp_all))) : p := e
theorem fc101 {gl : Nat → C} {M : Nat} {pu : Nat → List C → Option C} (hcx : CxOK (cxP gl M pu)) (h121 : ∀ w : List UInt8,w.length ≤ 1000000 → pu 121 [.val (str w)] = some (.val (str (capT w)))) (w : List UInt8) (n : Nat) (hw : w.length ≤ 1000000) (hn : n ≤ 1000000) : FC Tryd.prog gl 101 [.val (str w),.val (nI n)] [] (.val (str (dresT w n))) [] := by
 replace hcx := hcx.reN (M := 33)
 refine FC.ofA (cx := cxP gl 33 pu) (rs := [.tmp 4]) rfl Tryd.func101 rfl rfl rfl (by simp only [List.length_cons,List.length_nil]; decide) (by simp only [go_sem]) ?_
 simp only [ini,go_sem]
 have hy := True.intro
 refine Tr.w hcx [] _ [] rfl rfl rfl ?_ X_fc101
 refine Tr.seqK fun K1 hK1 => ?_
 refine Tr.w hcx [] _ [] rfl rfl rfl ?_ X_fc101
 refine Tr.blk ?_
 refine Tr.w hcx [1000007] _ [] rfl rfl rfl ?_ X_fc101
 refine Tr.cD rfl (fun hc6 => ?_) (fun hc6 => ?_)
 ·
  refine Tr.w hcx [1000009] _ [] rfl rfl rfl ?_ X_fc101
  exact Tr.ret F_fc101
 refine Tr.w hcx [1000011] _ [] rfl rfl rfl ?_ X_fc101
 refine Tr.cD rfl (fun hc10 => ?_) (fun hc10 => ?_)
 ·
  refine Tr.w hcx [1000013] _ [] rfl rfl rfl ?_ X_fc101
  exact Tr.ret F_fc101
 refine Tr.w hcx [1000015] _ [] rfl rfl rfl ?_ X_fc101
 refine Tr.cD rfl (fun hc14 => ?_) (fun hc14 => ?_)
 ·
  refine Tr.w hcx [1000017] _ [] rfl rfl rfl ?_ X_fc101
  exact Tr.ret F_fc101
 refine Tr.w hcx [1000019] _ [] rfl rfl rfl ?_ X_fc101
 refine Tr.cD rfl (fun hc18 => ?_) (fun hc18 => ?_)
 ·
  refine Tr.w hcx [1000022] _ [] rfl rfl rfl ?_ X_fc101
  exact Tr.ret F_fc101
 refine Tr.w hcx [1000024] _ [] rfl rfl rfl ?_ X_fc101
 refine Tr.cD rfl (fun hc23 => ?_) (fun hc23 => ?_)
 ·
  refine Tr.w hcx [1000027] _ [] rfl rfl rfl ?_ X_fc101
  exact Tr.ret F_fc101
 refine Tr.w hcx [1000029] _ [] rfl rfl rfl ?_ X_fc101
 refine Tr.cD rfl (fun hc28 => ?_) (fun hc28 => ?_)
 ·
  refine Tr.w hcx [1000031] _ [] rfl rfl rfl ?_ X_fc101
  exact Tr.ret F_fc101
 refine Tr.skip ?_
 refine hK1 _ ?_
 refine Tr.w hcx [1000032] _ [] rfl rfl rfl ?_ X_fc101
 exact Tr.ret F_fc101
theorem X_fc66 {p : Prop} (e : p := by intro KZ hZ; simp -implicitDefEqProofs (disch := first | omega | (simp only [go_sem,lA,lD,lT,hb1,wlist_ln] <;> omega) | decide) only [go_sem,↓reduceIte,Nat.reduceEqDiff,reduceCtorEq,Nat.reduceLT,Nat.reduceBEq,Nat.reduceAdd,h65',h101,wlist_mk,hy]; with_reducible exact hZ) : p := e
theorem F_fc66 {p : Prop} (e : p := by simp -implicitDefEqProofs (disch := first | omega | (simp only [go_sem,lA,lD,lT,hb1,wlist_ln] <;> omega) | decide) only [go_sem,↓reduceIte,Nat.reduceEqDiff,reduceCtorEq]; all_goals (rfl)) : p := e
theorem fc66 {gl : Nat → C} {M : Nat} {pu : Nat → List C → Option C} (hcx : CxOK (cxP gl M pu)) (h65 : ∀ (l : List Int) (i m : Nat),LI l → i ≤ 1000000 ∧ 0 < m ∧ m ≤ 9223372036854775807 → pu 65 [sl iC .no l,.val (nI i),.val (nI m)] = some (.val (nI (atI l i m)))) (h101 : ∀ (w : List UInt8) (n : Nat),w.length ≤ 1000000 ∧ n ≤ 1000000 → pu 101 [.val (str w),.val (nI n)] = some (.val (str (dresT w n)))) (l : List Int) (k : Nat) (hl : LI l) (hk : k ≤ 1000) : FC Tryd.prog gl 66 [sl iC .no l,.val (nI k)] [] (.val (str (textT l k))) [] := by
 replace hcx := hcx.reN (M := 41)
 refine FC.ofA (cx := cxP gl 41 pu) (rs := [.tmp 4]) rfl Tryd.func66 rfl rfl rfl (by simp only [List.length_cons,List.length_nil]; decide) (by simp only [go_sem]) ?_
 simp only [ini,go_sem]
 have hy := True.intro
 have h65' := fun i m => h65 l i m hl
 have hb0 := atI_lt l k (m := 9) (by decide)
 have hb1 := True.intro
 refine Tr.w hcx [] _ [] rfl rfl rfl ?_ X_fc66
 refine Tr.w hcx [1000010] _ [] rfl rfl rfl ?_ X_fc66
 refine Tr.w hcx [] _ [] rfl rfl rfl ?_ X_fc66
 refine Tr.seqK fun K1 hK1 => ?_
 refine Tr.w hcx [] _ [] rfl rfl rfl ?_ X_fc66
 refine Tr.k [0,1,5,6,7] ?_
 refine Tr.blk ?_
 refine Tr.loopI (α := Nat) (fun a => [(0,?v0_1),(1,?v1_1),(5,?v5_1),(6,.val (str (textR l k a))),(7,.val (nI a))]) (fun a => ?h_1) (fun a => a ≤ 1 + atI l k 9) (fun a => 1 + atI l k 9 - a) (0) ?_ ?le_1 ?hh_1 ?bd_1
 case hh_1 => exact rfl
 case le_1 => exact LT
 · omega
 rintro i hi
 have hb1 := textR_len l k i
 have hb2 := atI_lt l (k + 1 + i) (m := 108) (by decide)
 have hb3 := wl_len (atI l (k + 1 + i) 108 % 9)
 have hb4 := dres_len (gt wlist (atI l (k + 1 + i) 108 % 9)) (atI l (k + 1 + i) 108 / 9)
 have hb5 := Nat.mod_lt (atI l (k + 1 + i) 108) (show 9 > 0 by decide)
 refine Tr.seqK fun K2 hK2 => ?_
 refine Tr.w hcx [] _ [] rfl rfl rfl ?_ X_fc66
 refine Tr.cD rfl (fun hc16 => ?_) (fun hc16 => ?_)
 ·
  refine Tr.skip ?_
  refine hK2 _ ?_
  refine Tr.seqK fun K3 hK3 => ?_
  refine Tr.blk ?_
  refine Tr.w hcx [1000024] _ [] rfl rfl rfl ?_ X_fc66
  refine Tr.k [0,1,5,6,7,8] ?_
  refine Tr.w hcx [1000032] _ [] rfl rfl rfl ?_ X_fc66
  refine Tr.seqK fun K4 hK4 => ?_
  refine Tr.w hcx [] _ [] rfl rfl rfl ?_ X_fc66
  refine Tr.cD rfl (fun hc34 => ?_) (fun hc34 => ?_)
  ·
   refine Tr.v hcx [1000036] _ [] rfl rfl rfl ?_ X_fc66
   refine hK4 _ ?_
   refine Tr.v hcx [1000039] _ [] rfl rfl rfl ?_ X_fc66
   refine hK3 _ ?_
   refine Tr.k [0,1,5,6,7] ?_
   refine Tr.v hcx [1000018] _ [] rfl rfl rfl ?_ X_fc66
   refine ⟨i + 1,⟨by omega,O1⟩,?_,rfl⟩
   (simp only [Le_nil,Le_cons,↓A_cons,↓reduceIte,Nat.reduceEqDiff,CLe_refl,CLe_top,CLe_full,CLe_nil,CLe_own,and_true,true_and]; all_goals (repeat' first | exact CLe.refl _ | exact True.intro | (refine CLe_sln ?_; first | rfl | (simp only [List.take_zero]; done)) | exact CLe_nI (by omega) | exact CLe_int (by omega) | exact CLe_inI (by omega) | exact CLe_nIi (by omega) | with_reducible apply And.intro))
   all_goals first | (rw [textR_T l k i hc34]; exact CLe.refl _) | (rw [textR_F l k i hc34]; exact CLe.refl _)
  refine Tr.skip ?_
  refine hK4 _ ?_
  refine Tr.v hcx [1000039] _ [] rfl rfl rfl ?_ X_fc66
  refine hK3 _ ?_
  refine Tr.v hcx [1000018] _ [] rfl rfl rfl ?_ X_fc66
  refine ⟨i + 1,⟨by omega,O1⟩,?_,rfl⟩
  (simp only [Le_nil,Le_cons,↓A_cons,↓reduceIte,Nat.reduceEqDiff,CLe_refl,CLe_top,CLe_full,CLe_nil,CLe_own,and_true,true_and]; all_goals (repeat' first | exact CLe.refl _ | exact True.intro | (refine CLe_sln ?_; first | rfl | (simp only [List.take_zero]; done)) | exact CLe_nI (by omega) | exact CLe_int (by omega) | exact CLe_inI (by omega) | exact CLe_nIi (by omega) | with_reducible apply And.intro))
  all_goals first | (rw [textR_T l k i hc34]; exact CLe.refl _) | (rw [textR_F l k i hc34]; exact CLe.refl _)
 obtain rfl : i = 1 + atI l k 9 := by omega
 refine Tr.exit ?_
 refine hK1 _ ?_
 refine Tr.w hcx [1000040] _ [] rfl rfl rfl ?_ X_fc66
 exact Tr.ret F_fc66
end Go.Sx
namespace Go.Sx
open Go.RowKit Go.Proofs
theorem fm_len {β : Type} (F : Nat → List β) (v : Nat) : ((List.range (v + 1)).flatMap F).length = ((List.range v).flatMap F).length + (F v).length := by
  rw [List.range_succ,List.flatMap_append,List.length_append]; simp
theorem fm_le {β : Type} (F : Nat → List β) (v : Nat) : ∀ d,((List.range v).flatMap F).length ≤ ((List.range (v + d)).flatMap F).length
  | 0 => Nat.le_refl _
  | d + 1 => Nat.le_trans (fm_le F v d) (by rw [← Nat.add_assoc,fm_len]; omega)
theorem fm_get {β : Type} [Inhabited β] (F : Nat → List β) (v j : Nat) (hj : j < (F v).length) : ∀ d,gt ((List.range (v + 1 + d)).flatMap F) (((List.range v).flatMap F).length + j) = gt (F v) j
  | 0 => by
    rw [Nat.add_zero,List.range_succ,List.flatMap_append]
    simp only [gt,List.getD]
    rw [List.getElem?_append_right (by omega),Nat.add_sub_cancel_left]; simp
  | d + 1 => by
    rw [← Nat.add_assoc,List.range_succ,List.flatMap_append]
    have h := fm_get F v j hj d
    have h1 := fm_le F (v + 1) d
    rw [fm_len] at h1
    simp only [gt,List.getD] at h ⊢
    rw [List.getElem?_append_left (by omega)]; exact h
theorem fm_gtn {β : Type} [Inhabited β] (F : Nat → List β) (n v j : Nat) (hv : v < n) (hj : j < (F v).length) : gt ((List.range n).flatMap F) (((List.range v).flatMap F).length + j) = gt (F v) j ∧ ((List.range v).flatMap F).length + j < ((List.range n).flatMap F).length := by
  obtain ⟨d,rfl⟩ : ∃ d,n = v + 1 + d := ⟨n - (v + 1),by omega⟩
  refine ⟨fm_get F v j hj d,?_⟩
  have := fm_le F (v + 1) d
  rw [fm_len] at this; omega
abbrev Rd := (Nat × Nat × Nat) × Psg
def rdA (v a : Nat) (l : List Psg) : List Rd := (List.range l.length).map fun i => ((v,a,i),gt l i)
def rdV (v : Nat) (l : Vol) : List Rd := (List.range l.length).flatMap fun a => rdA v a (gt l a).2
def rdW (w : Wrk) : List Rd := (List.range w.length).flatMap fun v => rdV v (gt w v)
def oA (v : Nat) (l : Vol) (a : Nat) : Nat := ((List.range a).flatMap fun a => rdA v a (gt l a).2).length
def oV (w : Wrk) (v : Nat) : Nat := ((List.range v).flatMap fun v => rdV v (gt w v)).length
theorem rdA_len (v a : Nat) (l : List Psg) : (rdA v a l).length = l.length := by simp [rdA]
theorem rdA_gt (v a : Nat) (l : List Psg) (i : Nat) (h : i < l.length) : gt (rdA v a l) i = ((v,a,i),gt l i) := by
  simp [rdA,gt,List.getD,List.getElem?_map,List.getElem?_range h]
theorem oA_0 (v : Nat) (l : Vol) : oA v l 0 = 0 := rfl
theorem oV_0 (w : Wrk) : oV w 0 = 0 := rfl
theorem oA_S (v : Nat) (l : Vol) (a : Nat) : oA v l (a + 1) = oA v l a + (gt l a).2.length := by unfold oA; rw [fm_len,rdA_len]
theorem oA_n (v : Nat) (l : Vol) : oA v l l.length = (rdV v l).length := rfl
theorem oV_S (w : Wrk) (v : Nat) : oV w (v + 1) = oV w v + (rdV v (gt w v)).length := by unfold oV; rw [fm_len]
theorem oV_n (w : Wrk) : oV w w.length = (rdW w).length := rfl
theorem rdW_gt (w : Wrk) (v a i : Nat) (hv : v < w.length) (ha : a < (gt w v).length) (hi : i < (gt (gt w v) a).2.length) :
    gt (rdW w) (oV w v + (oA v (gt w v) a + i)) = ((v,a,i),gt (gt (gt w v) a).2 i) ∧ oV w v + (oA v (gt w v) a + i) < (rdW w).length := by
  have h1 := fm_gtn (fun a => rdA v a (gt (gt w v) a).2) (gt w v).length a i ha (by rw [rdA_len]; exact hi)
  have h2 := fm_gtn (fun v => rdV v (gt w v)) w.length v (oA v (gt w v) a + i) hv h1.2
  refine ⟨h2.1.trans (h1.1.trans (rdA_gt _ _ _ _ hi)),h2.2⟩
end Go.Sx
namespace Go.Sx
open Go.RowKit Go.Proofs
set_option maxRecDepth 100000
set_option maxHeartbeats 8000000
theorem X_it93 {p : Prop} (e : p := by intro KZ hZ; simp -implicitDefEqProofs (disch := first | omega | (simp only [go_sem,lA,lD,lT] <;> omega) | decide) only [go_sem,↓reduceIte,Nat.reduceEqDiff,reduceCtorEq,Nat.reduceLT,Nat.reduceBEq,Nat.reduceAdd,ss,List.append_nil]; with_reducible exact hZ) : p := e
theorem E_it93 {p : Prop} (e : p := by intro c k KZ hZ; simp -implicitDefEqProofs (disch := first | omega | decide) only [go_sem,↓reduceIte,Nat.reduceEqDiff,reduceCtorEq,Nat.reduceLT,Nat.reduceBEq,Nat.reduceAdd]; with_reducible exact hZ) : p := e
theorem K_it93 {p : Prop} (e : p := by intro RZ hZ; simp only [pk_cons,pk_nil,↓A_cons,↓reduceIte,Nat.reduceEqDiff,reduceCtorEq]; exact hZ) : p := e
theorem FZ {p : Prop} (e : p := by (repeat' (first | exact True.intro | (refine ⟨rfl,.inl ⟨rfl,by first | rfl | exact noRef_sl _ _ _ _⟩,?_⟩) | (refine ⟨rfl,.inr ⟨_,rfl,rfl⟩,?_⟩)))) : p := e
def xsW (w : Wrk) (i : Nat) : List C := [.agg [.val (nI (gt (rdW w) i).1.1),.val (nI (gt (rdW w) i).1.2.1),.val (nI (gt (rdW w) i).1.2.2)],.agg (pC (gt (rdW w) i).2)]
def WB (w : Wrk) : Prop := w.length < 1099511627776 ∧ (∀ v,v < w.length → (gt w v).length < 1099511627776) ∧ ∀ v a,v < w.length → a < (gt w v).length → (gt (gt w v) a).2.length < 1099511627776
theorem it93 {gl : Nat → C} {M : Nat} {pu : Nat → List C → Option C} (hcx : CxOK (cxP gl M pu)) (w : Wrk) (hw : WB w) :
    ItrB Tryd.prog gl 93 [.kp [sl vC .no w]] (rdW w).length (xsW w) RowN := by
  replace hcx := hcx.reN (M := 44)
  refine ItrB.of (cx := cxP gl 44 pu) rfl Tryd.func93 rfl rfl rfl (by simp only [List.length_cons,List.length_nil]; decide) ?_
  intro n l0 rec G I B h Y hY hst h0 hR
  have ss := True.intro
  have hw1 := hw.1
  simp only [ini,go_sem]
  refine TrY.w hcx [] _ [] rfl rfl rfl ?_ X_it93
  refine TrY.block ?_
  refine TrY.loop (fun m s => ∃ v,v ≤ w.length ∧ m = w.length - v ∧ I (oV w v) s.h ∧ Le s.env [(0,.val (.func (.yield l0) #[] #[])),(10,sl vC .no w),(11,.val (nI w.length)),(12,.val (nI v))]) w.length ⟨0,Nat.zero_le _,rfl,h0,LT⟩ ?_
  rintro m s ⟨v,hv,rfl,hIv,hle⟩
  refine TrY.live _ hle ?_
  generalize s.h = k at hIv ⊢
  refine TrY.w hcx [] _ [] rfl rfl rfl ?_ X_it93
  by_cases hc : v < w.length
  · refine TrY.seq (TrY.cond (b := true) (by rw [ev_tmp]; exact congrArg (fun b => C.val (.bool b)) (decide_eq_true hc)) ?_)
    refine TrY.lift (Tr.skip (Q := fun x s' => x = .normal ∧ s' = _) ⟨rfl,rfl⟩) ?_
    rintro x s' ⟨rfl,rfl⟩
    refine ⟨fun _ => ?_,fun c => absurd rfl c⟩
    refine TrY.k [0,10,11,12] ?_ K_it93
    refine TrY.seq (TrY.block ?_)
    have hk := hR _ k hIv
    obtain ⟨V,hV⟩ : ∃ V,gt w v = V := ⟨_,rfl⟩
    have hVl := hw.2.1 v hc
    rw [hV] at hVl
    have ss := hV
    refine TrY.w hcx [1000014] _ [none] rfl rfl rfl ?_ X_it93
    refine TrY.w hcx [] _ [] rfl rfl rfl ?_ X_it93
    refine TrY.k [0,3,10,11,12,18,19,20] ?_ K_it93
    refine TrY.dr1 hcx hk (noRefs_f vC 0 V) (live_vC V) (by simp only [List.all_cons,List.all_nil,noRef_val,noRef_sl,Bool.and_self]) ?_
    refine TrY.block ?_
    refine TrY.loop (fun m s => ∃ a,a ≤ V.length ∧ m = V.length - a ∧ I (oV w v + oA v V a) s.h ∧ Le s.env [(0,.val (.func (.yield l0) #[] #[])),(3,.val (nI v)),(10,sl vC .no w),(11,.val (nI w.length)),(12,.val (nI v)),(18,sl aC .no V),(19,.val (nI V.length)),(20,.val (nI a))]) V.length ⟨0,Nat.zero_le _,rfl,by rw [oA_0]; exact hIv,LT⟩ ?_
    rintro m s ⟨a,ha,rfl,hIa,hle⟩
    refine TrY.live _ hle ?_
    generalize s.h = k2 at hIa ⊢
    refine TrY.w hcx [] _ [] rfl rfl rfl ?_ X_it93
    by_cases hca : a < V.length
    · refine TrY.seq (TrY.cond (b := true) (by rw [ev_tmp]; exact congrArg (fun b => C.val (.bool b)) (decide_eq_true hca)) ?_)
      refine TrY.lift (Tr.skip (Q := fun x s' => x = .normal ∧ s' = _) ⟨rfl,rfl⟩) ?_
      rintro x s' ⟨rfl,rfl⟩
      refine ⟨fun _ => ?_,fun c => absurd rfl c⟩
      refine TrY.k [0,3,10,11,12,18,19,20] ?_ K_it93
      refine TrY.seq (TrY.block ?_)
      have hk2 := hR _ k2 hIa
      obtain ⟨L,hL⟩ : ∃ L,(gt V a).2 = L := ⟨_,rfl⟩
      have hLl := hw.2.2 v a hc (by rw [hV]; exact hca)
      rw [hV,hL] at hLl
      have ss := And.intro hV hL
      refine TrY.w hcx [1000022] _ [none] rfl rfl rfl ?_ X_it93
      refine TrY.w hcx [] _ [] rfl rfl rfl ?_ X_it93
      refine TrY.k [0,3,5,10,11,12,18,19,20,26,27,28] ?_ K_it93
      refine TrY.dr1 hcx hk2 (noRefs_f aC 0 (gt V a)) (live_aC (gt V a)) (by simp only [List.all_cons,List.all_nil,noRef_val,noRef_sl,Bool.and_self]) ?_
      refine TrY.block ?_
      refine TrY.loop (fun m s => ∃ i,i ≤ L.length ∧ m = L.length - i ∧ I (oV w v + (oA v V a + i)) s.h ∧ Le s.env [(0,.val (.func (.yield l0) #[] #[])),(3,.val (nI v)),(5,.val (nI a)),(10,sl vC .no w),(11,.val (nI w.length)),(12,.val (nI v)),(18,sl aC .no V),(19,.val (nI V.length)),(20,.val (nI a)),(26,sl pC .no L),(27,.val (nI L.length)),(28,.val (nI i))]) L.length ⟨0,Nat.zero_le _,rfl,hIa,LT⟩ ?_
      rintro m s ⟨i,hi,rfl,hIi,hle⟩
      refine TrY.live _ hle ?_
      generalize s.h = k3 at hIi ⊢
      refine TrY.w hcx [] _ [] rfl rfl rfl ?_ X_it93
      by_cases hci : i < L.length
      · refine TrY.seq (TrY.cond (b := true) (by rw [ev_tmp]; exact congrArg (fun b => C.val (.bool b)) (decide_eq_true hci)) ?_)
        refine TrY.lift (Tr.skip (Q := fun x s' => x = .normal ∧ s' = _) ⟨rfl,rfl⟩) ?_
        rintro x s' ⟨rfl,rfl⟩
        refine ⟨fun _ => ?_,fun c => absurd rfl c⟩
        refine TrY.k [0,3,5,10,11,12,18,19,20,26,27,28] ?_ K_it93
        refine TrY.seq (TrY.block ?_)
        have hk3 := hR _ k3 hIi
        have hg := rdW_gt w v a i hc (by rw [hV]; exact hca) (by rw [hV,hL]; exact hci)
        rw [hV,hL] at hg
        refine TrY.w hcx [1000030] _ [none] rfl rfl rfl ?_ X_it93
        refine TrY.k [0,3,5,7,8,10,11,12,18,19,20,26,27,28] ?_ K_it93
        refine TrY.fz1 hcx [(0,.val (.func (.yield l0) #[] #[])),(3,.val (nI v)),(5,.val (nI a)),(7,.val (nI i)),(8,.kp (pC (gt L i))),(10,sl vC .no w),(11,.val (nI w.length)),(12,.val (nI v)),(18,sl aC .no V),(19,.val (nI V.length)),(20,.val (nI a)),(26,sl pC .no L),(27,.val (nI L.length)),(28,.val (nI i))] (pC (gt L i)) hk3 (noRefs_f pC 0 (gt L i)) (live_pC _) rfl FZ ?_
        refine TrY.yw hcx hY 6 rfl (show 39 < 44 by decide) rfl [] _ rfl rfl (fun post hp => hst _ k3 post hg.2 hIi hp) X_it93 rfl ?_ E_it93 ?_ ?_
        · unfold xsW; rw [hg.1]; rfl
        · intro k4 hk4
          refine TrY.cond (b := false) rfl ?_
          refine TrY.lift (Tr.skip (Q := fun x s' => x = .normal ∧ s' = _) ⟨rfl,rfl⟩) ?_
          rintro x s' ⟨rfl,rfl⟩
          refine ⟨fun _ => ?_,fun c => absurd rfl c⟩
          refine TrY.k [0,3,5,10,11,12,18,19,20,26,27,28] ?_ K_it93
          refine TrY.v hcx [] _ [] rfl rfl rfl ?_ X_it93
          exact ⟨rfl,L.length - (i + 1),by omega,i + 1,by omega,rfl,hk4,LT⟩
        · intro j k4 hk4
          exact Tr.cT rfl (Tr.ret hk4)
      · refine TrY.seq (TrY.cond (b := false) (by rw [ev_tmp]; exact congrArg (fun b => C.val (.bool b)) (decide_eq_false hci)) ?_)
        refine TrY.lift (Tr.exit (Q := fun x s' => x = .exit 4 ∧ s' = _) ⟨rfl,rfl⟩) ?_
        rintro x s' ⟨rfl,rfl⟩
        obtain rfl : i = L.length := by omega
        refine ⟨fun _ => ?_,fun c => absurd rfl c⟩
        refine TrY.k [0,3,10,11,12,18,19,20] ?_ K_it93
        refine TrY.v hcx [] _ [] rfl rfl rfl ?_ X_it93
        exact ⟨rfl,V.length - (a + 1),by omega,a + 1,by omega,rfl,by rw [oA_S,hL]; exact hIi,LT⟩
    · refine TrY.seq (TrY.cond (b := false) (by rw [ev_tmp]; exact congrArg (fun b => C.val (.bool b)) (decide_eq_false hca)) ?_)
      refine TrY.lift (Tr.exit (Q := fun x s' => x = .exit 2 ∧ s' = _) ⟨rfl,rfl⟩) ?_
      rintro x s' ⟨rfl,rfl⟩
      obtain rfl : a = V.length := by omega
      refine ⟨fun _ => ?_,fun c => absurd rfl c⟩
      refine TrY.k [0,10,11,12] ?_ K_it93
      refine TrY.v hcx [] _ [] rfl rfl rfl ?_ X_it93
      exact ⟨rfl,w.length - (v + 1),by omega,v + 1,by omega,rfl,by rw [oV_S,hV,← oA_n]; exact hIa,LT⟩
  · refine TrY.seq (TrY.cond (b := false) (by rw [ev_tmp]; exact congrArg (fun b => C.val (.bool b)) (decide_eq_false hc)) ?_)
    refine TrY.lift (Tr.exit (Q := fun x s' => x = .exit 0 ∧ s' = _) ⟨rfl,rfl⟩) ?_
    rintro x s' ⟨rfl,rfl⟩
    obtain rfl : v = w.length := by omega
    rw [oV_n] at hIv
    exact hIv
theorem RowN.c {n : Nat} {h : Hp} {l : List C} (H : RowN n h) (h1 : noRefs 0 l = true) (h2 : liveC (some l) = some l) : RowN (n + 1) (some l :: h) :=
  ⟨by simp [H.len],by rw [noRefH_some,h1,H.nr]; rfl,fun j hj => by
    cases j with
    | zero => left; rw [at_cons0,h2]; rfl
    | succ j =>
      have := H.lv j (by omega)
      rw [at_consS,mp_consS]
      simpa using this⟩
noncomputable def cxPT (gl : Nat → C) (M : Nat) (pu : Nat → List C → Option C) : Cx := { cxP gl M pu with top := false }
section
variable {gl : Nat → C} {M : Nat} {pu : Nat → List C → Option C}
theorem cxPT_P : (cxPT gl M pu).P = Tryd.prog := rfl
theorem cxPT_N : (cxPT gl M pu).N = M := rfl
theorem cxPT_pu : (cxPT gl M pu).pu = pu := rfl
theorem cxPT_gr (d : Option Nat) : isG (cxPT gl M pu) d = false := by cases d <;> rfl
theorem hMOT : (cxPT gl M pu).P.follows .mixedOrders = true := hMO (gl := gl) (M := M) (pu := pu)
theorem Tr.rfR {n : Nat} {Q : Ex → St → Prop} {g f m : Nat} {ps : List Nat} {assign body : Code} {e : List (Nat × C)} {h : Hp} {caps : List C} (N : Nat) (xs : Nat → List C) (H : Nat → Hp) (hg : A e g = .fn f caps) (hI : ItrB Tryd.prog gl f caps N xs RowN ∧ ∀ i,RowN m (H i))
    (hx : ∀ i,i < N → (xs i).length = ps.length) (hp : ∀ p ∈ ps,p < M) (h0 : h = H 0)
    (hb : ∀ i,i < N → Tr (cxPT gl M pu) (H i).length assign ⟨A (bindL ps (xs i) (nrE e)),H i⟩ fun x s => x = .normal ∧ Tr (cxPT gl M pu) (H i).length body s (RoundQ (H i).length (fun k => k = H (i + 1)) fun x h' => Q x ⟨A e,h'⟩))
    (hd : Q .normal ⟨A e,H N⟩) : Tr (cxP gl M pu) n (.rangeFunc (.tmp g) ps.toArray assign body) ⟨A e,h⟩ Q :=
  Tr.rfB (cx := cxP gl M pu) rfl N xs H hg hI.1 m hI.2 hx hp h0 hb hd
end
attribute [go_sem] cxPT_P cxPT_N cxPT_pu cxPT_gr
end Go.Sx
