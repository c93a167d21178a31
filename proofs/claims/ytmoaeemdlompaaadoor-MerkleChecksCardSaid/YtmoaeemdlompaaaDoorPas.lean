/-
   And what follows.
-/
import Derived.Test.YtmoaeemdlompaaaDoorPar
import Derived.Test.YtmoaeemdlompaaaDoorPaa
set_option linter.unusedSimpArgs false
set_option linter.unusedVariables false
namespace Go.Sx
open Go.RowKit Go.Proofs
set_option maxRecDepth 100000
set_option maxHeartbeats 8000000
theorem okB_cl (p : List UInt8) : okBox (some (cl bC p)) = true := by cases p <;> rfl
theorem X_fc85z {p : Prop} (e : p := by intro KZ hZ; simp -implicitDefEqProofs (disch := first | omega | (simp only [go_sem,lA,lD,lT,lefT_len,hgl,ofT_len,nodT_len] <;> omega) | decide) only [go_sem,↓reduceIte,Nat.reduceEqDiff,reduceCtorEq,Nat.reduceLT,Nat.reduceBEq,Nat.reduceAdd,ep86,en86,b1,b2,hy]; with_reducible exact hZ) : p := e
theorem Y_fc85z {p : Prop} (e : p := by intro KZ hZ; simp -implicitDefEqProofs (disch := first | omega | (simp only [go_sem,lA,lD,lT,lefT_len,hgl,ofT_len,nodT_len] <;> omega) | decide) only [go_sem,↓reduceIte,Nat.reduceEqDiff,reduceCtorEq,Nat.reduceLT,Nat.reduceBEq,Nat.reduceAdd,ep86,en86,b1,b2,hy]; with_reducible refine And.intro ?_ hZ; first | exact rfl | decide) : p := e
theorem F_fc85z {p : Prop} (e : p := by simp -implicitDefEqProofs (disch := first | omega | (simp only [go_sem,lA,lD,lT,lefT_len,hgl,ofT_len,nodT_len] <;> omega) | decide) only [go_sem,↓reduceIte,Nat.reduceEqDiff,reduceCtorEq]; all_goals (first | (simp only [hR]; done) | (rw [hR]; exact ⟨rfl,rfl⟩) | (rw [hR]))) : p := e
theorem fc85z {gl : Nat → C} {M0 : Nat} {pu : Nat → List C → Option C} {hp : Nat → List C → Hp → Option (C × Hp)} (hcx : CxOK (cxR gl M0 pu hp)) (l : List Leaf) (f : Nat) (S : List Dig) (T : List (List UInt8)) (u : Nat) (sh : Bool) (d a b : Nat) (hl : LZ l) (hf : f ≤ 5000) (hS : S.length ≤ 1000000) (hu : u ≤ S.length) (hT : T.length ≤ 900000 - 2 ^ (d + 1)) (hd : d ≤ 12) (hab : a < b ∧ b ≤ 5000 ∧ b - a ≤ 2 ^ d) (hz : b ≤ f ∨ f + l.length ≤ a ∨ b - a ≤ 1) (hnr : ∀ (g : Nat) (xs : List C),noRefs 0 xs = false → pu g xs = none) (hn86 : ∀ xs : List C,(∃ b o,C.bp b o ∈ xs) → hp 86 xs [] = some (.top,[])) (hq86 : ∀ (suf : Hp) (T : List (List UInt8)) (S : List Dig) (u : Nat) (sh : Bool) (tag : Int) (parts : List (List UInt8)),OkH suf → T.length ≤ 1000000 → (inp tag parts).length < 1099511627776 → hp 86 [.bp 0 0,.val (.int .i64 tag),sl sC .no parts] ([some [sl sC (.own 1) (T),sl dC .no S,.val (nI (u)),.val (.bool (sh))]] ++ suf) = some (.agg (cl bC (ofT tag parts)),[some [sl sC (.own 1) (T ++ [inp tag parts]),sl dC .no S,.val (nI (u)),.val (.bool (sh))]] ++ suf)) : FC Tryd.prog gl 85 [.bp 0 0,sl eC .no l,.val (nI f),.val (nI a),.val (nI b)] [some [sl sC (.own 1) (T),sl dC .no S,.val (nI (u)),.val (.bool (sh))]] (.agg (cl bC (rowR l f S d a b (T,u,sh)).1)) [some [sl sC (.own 1) ((rowR l f S d a b (T,u,sh)).2.1),sl dC .no S,.val (nI ((rowR l f S d a b (T,u,sh)).2.2.1)),.val (.bool ((rowR l f S d a b (T,u,sh)).2.2.2))]] := by
 replace hcx := hcx.reN (M := 104)
 refine FC.ofT (cx := cxR gl 104 pu hp) (rs := [.cell 10 29]) rfl Tryd.func85 rfl rfl rfl (by simp only [List.length_cons,List.length_nil]; decide) (by simp only [go_sem]) (tre_nr _ _ _ _) ?_
 simp only [ini,go_sem]
 have b1 := True.intro
 have b2 := True.intro
 have hy := True.intro
 have hgl := fun k => (gt S k).2
 have hll := hl.1
 have en86 : ∀ (tag : Nat) (parts : List (List UInt8)),hp 86 [.bp 0 0,.val (nI tag),sl sC .no parts] [] = some (.top,[]) := fun tag parts => hn86 _ ⟨0,0,by simp⟩
 have ep86 : ∀ (tag : Nat) (parts : List (List UInt8)),pu 86 [.bp 0 0,.val (nI tag),sl sC .no parts] = none := fun tag parts => hnr 86 _ rfl
 refine Tr.w hcx [] _ [none] rfl rfl rfl ?_ X_fc85z
 refine Tr.seqK fun K1 hK1 => ?_
 by_cases b1 : b ≤ f
 ·
  refine Tr.w hcx [] [some 14,some 15,some 16,some 17,some 18,some 19,some 20,some 21,some 22,some 23,some 24] [] rfl rfl rfl ?_ X_fc85z
  refine Tr.cT rfl ?_
  refine Tr.seqK fun K2 hK2 => ?_
  have hR0 := rowR_s (l := l) (S := S) (d := d) (a := a) (b := b) (st := (T,u,sh)) (Or.inl b1)
  refine Tr.wD hcx hMOR [] _ [] rfl rfl rfl rfl ?_ Y_fc85z
  refine Tr.k [0,10,34] ?_
  refine Tr.cD rfl (fun hc34 => ?_) (fun hc34 => ?_)
  ·
   have hR := hR0.trans (sidR_1 hc34)
   refine Tr.w hcx [] _ [] rfl rfl rfl ?_ X_fc85z
   refine Tr.w hcx [] _ [] rfl rfl rfl ?_ X_fc85z
   exact Tr.ret F_fc85z
  have hR := hR0.trans (sidR_2 hc34)
  refine Tr.skip ?_
  refine hK2 _ ?_
  refine Tr.w hcx [] _ [] rfl rfl rfl ?_ X_fc85z
  refine Tr.wD hcx hMOR [] _ [] rfl rfl rfl rfl ?_ Y_fc85z
  exact Tr.ret F_fc85z
 by_cases b2 : f + l.length ≤ a
 ·
  refine Tr.w hcx [] [some 14,some 15,some 16,some 17,some 18,some 19,some 20,some 21,some 22,some 23,some 24] [] rfl rfl rfl ?_ X_fc85z
  refine Tr.cT rfl ?_
  refine Tr.seqK fun K3 hK3 => ?_
  have hR0 := rowR_s (l := l) (S := S) (d := d) (a := a) (b := b) (st := (T,u,sh)) (Or.inr b2)
  refine Tr.wD hcx hMOR [] _ [] rfl rfl rfl rfl ?_ Y_fc85z
  refine Tr.k [0,10,34] ?_
  refine Tr.cD rfl (fun hc34 => ?_) (fun hc34 => ?_)
  ·
   have hR := hR0.trans (sidR_1 hc34)
   refine Tr.w hcx [] _ [] rfl rfl rfl ?_ X_fc85z
   refine Tr.w hcx [] _ [] rfl rfl rfl ?_ X_fc85z
   exact Tr.ret F_fc85z
  have hR := hR0.trans (sidR_2 hc34)
  refine Tr.skip ?_
  refine hK3 _ ?_
  refine Tr.w hcx [] _ [] rfl rfl rfl ?_ X_fc85z
  refine Tr.wD hcx hMOR [] _ [] rfl rfl rfl rfl ?_ Y_fc85z
  exact Tr.ret F_fc85z
 refine Tr.w hcx [] [some 14,some 15,some 16,some 17,some 18,some 19,some 20,some 21,some 22,some 23,some 24] [] rfl rfl rfl ?_ X_fc85z
 refine Tr.cF rfl ?_
 refine Tr.skip ?_
 refine hK1 _ ?_
 refine Tr.seqK fun K4 hK4 => ?_
 have h61 : b - a = 1 := by omega
 have hR := rowR_l (l := l) (f := f) (S := S) (d := d) (st := (T,u,sh)) (fun h => h.elim b1 b2) (show b - a ≤ 1 by omega)
 have hlb := hl.2 (a - f) (by omega)
 have e86 := hq86 [some (cl bC (List.replicate 16 0))] T S u sh 3 [(gt l (a - f)).1,(gt l (a - f)).2] (OkH.cons (by rw [okB_cl]) OkH.nil) (by omega) (inp_len2 3 _ _ (by omega) (by omega))
 change hp 86 [C.bp 0 0,.val (nI 3),sl sC .no _] _ = some (C.agg (cl bC (lefT (gt l (a - f)))),_) at e86
 simp only [List.cons_append,List.nil_append] at e86
 have hy := @h61
 refine Tr.w hcx [] _ [] rfl rfl rfl ?_ X_fc85z
 refine Tr.cT rfl ?_
 have hy := And.intro @e86 @rep2s
 refine Tr.wD hcx hMOR [] _ [] rfl rfl rfl rfl ?_ Y_fc85z
 refine Tr.k [10] ?_
 exact Tr.ret F_fc85z
theorem X_fc85s {p : Prop} (e : p := by intro KZ hZ; simp -implicitDefEqProofs (disch := first | omega | (simp only [go_sem,lA,lD,lT,lefT_len,hgl,ofT_len,nodT_len,hx1,hx2] <;> omega) | decide) only [go_sem,↓reduceIte,Nat.reduceEqDiff,reduceCtorEq,Nat.reduceLT,Nat.reduceBEq,Nat.reduceAdd,ep86,en86,ep85,en85,hy]; with_reducible exact hZ) : p := e
theorem Y_fc85s {p : Prop} (e : p := by intro KZ hZ; simp -implicitDefEqProofs (disch := first | omega | (simp only [go_sem,lA,lD,lT,lefT_len,hgl,ofT_len,nodT_len,hx1,hx2] <;> omega) | decide) only [go_sem,↓reduceIte,Nat.reduceEqDiff,reduceCtorEq,Nat.reduceLT,Nat.reduceBEq,Nat.reduceAdd,ep86,en86,ep85,en85,hy]; with_reducible refine And.intro ?_ hZ; first | exact rfl | decide) : p := e
theorem F_fc85s {p : Prop} (e : p := by simp -implicitDefEqProofs (disch := first | omega | (simp only [go_sem,lA,lD,lT,lefT_len,hgl,ofT_len,nodT_len,hx1,hx2] <;> omega) | decide) only [go_sem,↓reduceIte,Nat.reduceEqDiff,reduceCtorEq]; all_goals (first | (simp only [hR]; done) | (rw [hR]; exact ⟨rfl,rfl⟩) | (rw [hR]))) : p := e
theorem fc85s {gl : Nat → C} {M0 : Nat} {pu : Nat → List C → Option C} {hp : Nat → List C → Hp → Option (C × Hp)} (hcx : CxOK (cxR gl M0 pu hp)) (l : List Leaf) (f : Nat) (S : List Dig) (T : List (List UInt8)) (u : Nat) (sh : Bool) (d a b : Nat) (hl : LZ l) (hf : f ≤ 5000) (hS : S.length ≤ 1000000) (hu : u ≤ S.length) (hT : T.length ≤ 900000 - 2 ^ ((d + 1) + 1)) (hd : (d + 1) ≤ 12) (hab : a < b ∧ b ≤ 5000 ∧ b - a ≤ 2 ^ (d + 1)) (hq85 : ∀ (suf : Hp) (T : List (List UInt8)) (u : Nat) (sh : Bool) (a b : Nat),OkH suf → T.length ≤ 900000 - 2 ^ (d + 1) → u ≤ S.length → a < b ∧ b - a ≤ 2 ^ d ∧ b ≤ 5000 → hp 85 [.bp 0 0,sl eC .no l,.val (nI f),.val (nI a),.val (nI b)] ([some [sl sC (.own 1) (T),sl dC .no S,.val (nI (u)),.val (.bool (sh))]] ++ suf) = some (.agg (cl bC (rowR l f S d a b (T,u,sh)).1),[some [sl sC (.own 1) ((rowR l f S d a b (T,u,sh)).2.1),sl dC .no S,.val (nI ((rowR l f S d a b (T,u,sh)).2.2.1)),.val (.bool ((rowR l f S d a b (T,u,sh)).2.2.2))]] ++ suf)) (hz1 : ¬ b ≤ f) (hz2 : ¬ f + l.length ≤ a) (hz3 : ¬ b - a ≤ 1) (hnr : ∀ (g : Nat) (xs : List C),noRefs 0 xs = false → pu g xs = none) (hn86 : ∀ xs : List C,(∃ b o,C.bp b o ∈ xs) → hp 86 xs [] = some (.top,[])) (hq86 : ∀ (suf : Hp) (T : List (List UInt8)) (S : List Dig) (u : Nat) (sh : Bool) (tag : Int) (parts : List (List UInt8)),OkH suf → T.length ≤ 1000000 → (inp tag parts).length < 1099511627776 → hp 86 [.bp 0 0,.val (.int .i64 tag),sl sC .no parts] ([some [sl sC (.own 1) (T),sl dC .no S,.val (nI (u)),.val (.bool (sh))]] ++ suf) = some (.agg (cl bC (ofT tag parts)),[some [sl sC (.own 1) (T ++ [inp tag parts]),sl dC .no S,.val (nI (u)),.val (.bool (sh))]] ++ suf)) (hn85 : ∀ xs : List C,(∃ b o,C.bp b o ∈ xs) → hp 85 xs [] = some (.top,[])) (h84 : ∀ h : List UInt8,h.length = 16 → pu 84 [.agg (cl bC h)] = some (.val (str h))) (h106 : ∀ n : Nat,n ≤ 4611686018427387000 → pu 106 [.val (nI n)] = some (.val (nI (halfT n)))) : FC Tryd.prog gl 85 [.bp 0 0,sl eC .no l,.val (nI f),.val (nI a),.val (nI b)] [some [sl sC (.own 1) (T),sl dC .no S,.val (nI (u)),.val (.bool (sh))]] (.agg (cl bC (rowR l f S (d + 1) a b (T,u,sh)).1)) [some [sl sC (.own 1) ((rowR l f S (d + 1) a b (T,u,sh)).2.1),sl dC .no S,.val (nI ((rowR l f S (d + 1) a b (T,u,sh)).2.2.1)),.val (.bool ((rowR l f S (d + 1) a b (T,u,sh)).2.2.2))]] := by
 replace hcx := hcx.reN (M := 104)
 refine FC.ofT (cx := cxR gl 104 pu hp) (rs := [.cell 10 29]) rfl Tryd.func85 rfl rfl rfl (by simp only [List.length_cons,List.length_nil]; decide) (by simp only [go_sem]) (tre_nr _ _ _ _) ?_
 simp only [ini,go_sem]
 have hy := True.intro
 have hgl := fun k => (gt S k).2
 have hll := hl.1
 have en86 : ∀ (tag : Nat) (parts : List (List UInt8)),hp 86 [.bp 0 0,.val (nI tag),sl sC .no parts] [] = some (.top,[]) := fun tag parts => hn86 _ ⟨0,0,by simp⟩
 have ep86 : ∀ (tag : Nat) (parts : List (List UInt8)),pu 86 [.bp 0 0,.val (nI tag),sl sC .no parts] = none := fun tag parts => hnr 86 _ rfl
 have en85 : ∀ x y : Nat,hp 85 [.bp 0 0,sl eC .no l,.val (nI f),.val (nI x),.val (nI y)] [] = some (.top,[]) := fun x y => hn85 _ ⟨0,0,by simp⟩
 have ep85 : ∀ x y : Nat,pu 85 [.bp 0 0,sl eC .no l,.val (nI f),.val (nI x),.val (nI y)] = none := fun x y => hnr 85 _ rfl
 have b1 := hz1
 have b2 := hz2
 have h61 : (b - a = 1) = False := eq_false (by omega)
 have hx1 := True.intro
 have hx2 := True.intro
 refine Tr.w hcx [] _ [none] rfl rfl rfl ?_ X_fc85s
 refine Tr.seqK fun K1 hK1 => ?_
 have hy := And.intro @b1 @b2
 refine Tr.w hcx [] [some 14,some 15,some 16,some 17,some 18,some 19,some 20,some 21,some 22,some 23,some 24] [] rfl rfl rfl ?_ X_fc85s
 refine Tr.cF rfl ?_
 refine Tr.skip ?_
 refine hK1 _ ?_
 refine Tr.seqK fun K2 hK2 => ?_
 have hy := @h61
 refine Tr.w hcx [] _ [] rfl rfl rfl ?_ X_fc85s
 refine Tr.cF rfl ?_
 refine Tr.skip ?_
 refine hK2 _ ?_
 refine Tr.k [0,1,2,3,4,10] ?_
 have e106 := h106 (b - a) (by omega)
 have hh := half_lt (n := b - a) (by omega)
 have hh2 := half_le (by omega) hab.2.2
 have hp2 : 2 ^ (d + 1 + 1) = 2 * 2 ^ (d + 1) := by rw [Nat.pow_succ]; omega
 have hp3 : 2 ^ (d + 1) ≤ 2 ^ 12 := Nat.pow_le_pow_right (by omega) hd
 have hB1 := rowR_bd l f S d a (a + halfT (b - a)) (T,u,sh)
 dsimp only at hB1
 have e1 := hq85 [some (cl bC (List.replicate 16 0)),none] T u sh a (a + halfT (b - a)) (OkH.cons (okB_cl _) (OkH.cons rfl OkH.nil)) (by omega) hu (by omega)
 obtain ⟨X,hX⟩ : ∃ X,X = rowR l f S d a (a + halfT (b - a)) (T,u,sh) := ⟨_,rfl⟩
 have hXl : X.1.length = 16 := by rw [hX]; exact rowR_len _ _ _ _ _ _ _
 rw [← hX] at e1 hB1
 have hx1 := hXl
 have e2 := hq85 [some (cl bC (List.replicate 16 0)),some (cl bC X.1),none] X.2.1 X.2.2.1 X.2.2.2 (a + halfT (b - a)) b (OkH.cons (okB_cl _) (OkH.cons (okB_cl _) (OkH.cons rfl OkH.nil))) (by omega) (by omega) (by omega)
 obtain ⟨Y,hY⟩ : ∃ Y,Y = rowR l f S d (a + halfT (b - a)) b X.2 := ⟨_,rfl⟩
 have hYl : Y.1.length = 16 := by rw [hY]; exact rowR_len _ _ _ _ _ _ _
 have hB2 := rowR_bd l f S d (a + halfT (b - a)) b X.2
 have eY : rowR l f S d (a + halfT (b - a)) b (X.2.1,X.2.2.1,X.2.2.2) = Y := hY.symm
 rw [← hY] at hB2
 rw [eY] at e2
 have hx2 := hYl
 have e84a := h84 X.1 hXl
 have e84b := h84 Y.1 hYl
 have e86 := hq86 [some (cl bC (List.replicate 16 0)),some (cl bC X.1),some (cl bC Y.1)] Y.2.1 S Y.2.2.1 Y.2.2.2 4 [X.1,Y.1] (OkH.cons (okB_cl _) (OkH.cons (okB_cl _) (OkH.cons (okB_cl _) OkH.nil))) (by omega) (inp_len2 4 _ _ (by omega) (by omega))
 change hp 86 [C.bp 0 0,.val (nI 4),sl sC .no _] _ = some (C.agg (cl bC (nodT X.1 Y.1)),_) at e86
 simp only [List.cons_append,List.nil_append] at e1 e2 e86
 have hR := rowR_n (l := l) (f := f) (S := S) (d := d) (st := (T,u,sh)) (fun h => h.elim b1 b2) hz3
 rw [← hX,← hY,nodR] at hR
 have hy := @e106
 refine Tr.w hcx [1000084] _ [] rfl rfl rfl ?_ X_fc85s
 have hy := @e1
 refine Tr.w hcx [] _ [none] rfl rfl rfl ?_ X_fc85s
 refine Tr.k [0,1,2,4,10,11,12] ?_
 have hy := @e2
 refine Tr.w hcx [] _ [none] rfl rfl rfl ?_ X_fc85s
 have hy := And.intro @e84a (And.intro @e84b (And.intro @rep2s @e86))
 refine Tr.wD hcx hMOR [] _ [] rfl rfl rfl rfl ?_ Y_fc85s
 exact Tr.ret F_fc85s
end Go.Sx
namespace Go.Sx
open Go.RowKit Go.Proofs
set_option maxRecDepth 100000
set_option maxHeartbeats 8000000
theorem rep1s (x : List UInt8) : (List.replicate 1 []).set 0 x = [x] := rfl
theorem OkZ : OkH [some (cl bC (List.replicate 16 0))] := OkH.cons (okB_cl _) OkH.nil
theorem rooR_rotT (l : List Leaf) (f : Nat) (S : List Dig) (n : Nat) (st : TS) (h : ¬ n = 0) : (rooR l f S n st).1 = rotT n (rowR l f S 12 0 n st).1 := by
  rw [rooR_n h]; unfold rotT; rw [if_neg h]
theorem rowR_all (l : List Leaf) (S : List Dig) : ∀ d a b st,a < b → b ≤ l.length → (rowR l 0 S d a b st).1 = (if b - a ≤ 2 ^ d then rowD l d a b else (rowR l 0 S d a b st).1)
  | 0,a,b,st,h1,h2 => by
    split
    · rename_i h
      rw [rowR_l (by omega) (by simpa using h)]; rfl
    · rfl
  | d + 1,a,b,st,h1,h2 => by
    split
    · rename_i h
      by_cases e : b - a ≤ 1
      · rw [rowR_l (by omega) e,rowD_1 e]; rfl
      · have hh := half_lt (n := b - a) (by omega)
        have hh2 := half_le (by omega) h
        rw [rowR_n (by omega) e,rowD_2 e,nodR]
        have g1 := rowR_all l S d a (a + halfT (b - a)) st (by omega) (by omega)
        have g2 := rowR_all l S d (a + halfT (b - a)) b (rowR l 0 S d a (a + halfT (b - a)) st).2 (by omega) (by omega)
        rw [if_pos (by omega)] at g1 g2
        rw [g1,g2]
    · rfl
theorem rowR_D {l : List Leaf} {S : List Dig} {d a b : Nat} {st : TS} (h : a < b ∧ b ≤ l.length ∧ b - a ≤ 2 ^ d) : (rowR l 0 S d a b st).1 = rowD l d a b := by
  rw [rowR_all l S d a b st h.1 h.2.1,if_pos h.2.2]
theorem rooR_D {l : List Leaf} {S : List Dig} {st : TS} (h : l.length ≤ 4096) : (rooR l 0 S l.length st).1 = rotL l := by
  by_cases e : l.length = 0
  · rw [rooR_0 e]; unfold rotL rotT; rw [if_pos e,e]
  · rw [rooR_rotT l 0 S _ st e,rowR_D ⟨by omega,Nat.le_refl _,by omega⟩]; rfl
theorem X_fc52 {p : Prop} (e : p := by intro KZ hZ; simp -implicitDefEqProofs (disch := first | omega | (simp only [go_sem,lA,lD,lT,hwl,hx1,ofT_len] <;> omega) | decide) only [go_sem,↓reduceIte,Nat.reduceEqDiff,reduceCtorEq,Nat.reduceLT,Nat.reduceBEq,Nat.reduceAdd,ep86,en86,ep85,en85,rep1s,e83,e86,hy]; with_reducible exact hZ) : p := e
theorem F_fc52 {p : Prop} (e : p := by simp -implicitDefEqProofs (disch := first | omega | (simp only [go_sem,lA,lD,lT,hwl,hx1,ofT_len] <;> omega) | decide) only [go_sem,↓reduceIte,Nat.reduceEqDiff,reduceCtorEq]; all_goals (first | (simp only [hR]; done) | (rw [hR]; exact ⟨rfl,rfl⟩) | (rw [hR]))) : p := e
theorem fc52 {gl : Nat → C} {M0 : Nat} {pu : Nat → List C → Option C} {hp : Nat → List C → Hp → Option (C × Hp)} (hcx : CxOK (cxR gl M0 pu hp)) (l : List Leaf) (f : Nat) (S : List Dig) (T : List (List UInt8)) (u : Nat) (sh : Bool) (n : Nat) (hl : LZ l) (hf : f ≤ 5000) (hS : S.length ≤ 1000000) (hu : u ≤ S.length) (hT : T.length ≤ 800000) (hn : n ≤ 4096) (hnr : ∀ (g : Nat) (xs : List C),noRefs 0 xs = false → pu g xs = none) (hn86 : ∀ xs : List C,(∃ b o,C.bp b o ∈ xs) → hp 86 xs [] = some (.top,[])) (hq86 : ∀ (suf : Hp) (T : List (List UInt8)) (S : List Dig) (u : Nat) (sh : Bool) (tag : Int) (parts : List (List UInt8)),OkH suf → T.length ≤ 1000000 → (inp tag parts).length < 1099511627776 → hp 86 [.bp 0 0,.val (.int .i64 tag),sl sC .no parts] ([some [sl sC (.own 1) (T),sl dC .no S,.val (nI (u)),.val (.bool (sh))]] ++ suf) = some (.agg (cl bC (ofT tag parts)),[some [sl sC (.own 1) (T ++ [inp tag parts]),sl dC .no S,.val (nI (u)),.val (.bool (sh))]] ++ suf)) (hn85 : ∀ xs : List C,(∃ b o,C.bp b o ∈ xs) → hp 85 xs [] = some (.top,[])) (hq85 : ∀ (suf : Hp) (l : List Leaf) (f : Nat) (S : List Dig) (d : Nat) (T : List (List UInt8)) (u : Nat) (sh : Bool) (a b : Nat),OkH suf → LZ l → f ≤ 5000 → S.length ≤ 1000000 → u ≤ S.length → T.length ≤ 900000 - 2 ^ (d + 1) → d ≤ 12 → a < b ∧ b ≤ 5000 ∧ b - a ≤ 2 ^ d → hp 85 [.bp 0 0,sl eC .no l,.val (nI f),.val (nI a),.val (nI b)] ([some [sl sC (.own 1) (T),sl dC .no S,.val (nI (u)),.val (.bool (sh))]] ++ suf) = some (.agg (cl bC (rowR l f S d a b (T,u,sh)).1),[some [sl sC (.own 1) ((rowR l f S d a b (T,u,sh)).2.1),sl dC .no S,.val (nI ((rowR l f S d a b (T,u,sh)).2.2.1)),.val (.bool ((rowR l f S d a b (T,u,sh)).2.2.2))]] ++ suf)) (h84 : ∀ h : List UInt8,h.length = 16 → pu 84 [.agg (cl bC h)] = some (.val (str h))) (h83 : ∀ n : Int,-9223372036854775808 ≤ n ∧ n ≤ 9223372036854775807 → pu 83 [.val (.int .i64 n)] = some (sl bC (.own 1) (wint n))) : FC Tryd.prog gl 52 [.bp 0 0,sl eC .no l,.val (nI f),.val (nI n)] [some [sl sC (.own 1) (T),sl dC .no S,.val (nI (u)),.val (.bool (sh))]] (.agg (cl bC (rooR l f S n (T,u,sh)).1)) [some [sl sC (.own 1) ((rooR l f S n (T,u,sh)).2.1),sl dC .no S,.val (nI ((rooR l f S n (T,u,sh)).2.2.1)),.val (.bool ((rooR l f S n (T,u,sh)).2.2.2))]] := by
 replace hcx := hcx.reN (M := 28)
 refine FC.ofT (cx := cxR gl 28 pu hp) (rs := [.cell 8 29]) rfl Tryd.func52 rfl rfl rfl (by simp only [List.length_cons,List.length_nil]; decide) (by simp only [go_sem]) (tre_nr _ _ _ _) ?_
 simp only [ini,go_sem]
 have hy := True.intro
 have en86 : ∀ (tag : Nat) (parts : List (List UInt8)),hp 86 [.bp 0 0,.val (nI tag),sl sC .no parts] [] = some (.top,[]) := fun tag parts => hn86 _ ⟨0,0,by simp⟩
 have ep86 : ∀ (tag : Nat) (parts : List (List UInt8)),pu 86 [.bp 0 0,.val (nI tag),sl sC .no parts] = none := fun tag parts => hnr 86 _ rfl
 have en85 : ∀ x y : Nat,hp 85 [.bp 0 0,sl eC .no l,.val (nI f),.val (nI x),.val (nI y)] [] = some (.top,[]) := fun x y => hn85 _ ⟨0,0,by simp⟩
 have ep85 : ∀ x y : Nat,pu 85 [.bp 0 0,sl eC .no l,.val (nI f),.val (nI x),.val (nI y)] = none := fun x y => hnr 85 _ rfl
 have hll := hl.1
 have e83 : pu 83 [.val (nI n)] = some (sl bC (.own 1) (wint ((n : Nat) : Int))) := h83 ((n : Nat) : Int) (by omega)
 have hwl := wintn_len n (by omega)
 have hx1 := True.intro
 have e86 := True.intro
 refine Tr.w hcx [] _ [none] rfl rfl rfl ?_ X_fc52
 refine Tr.w hcx [1000013] _ [] rfl rfl rfl ?_ X_fc52
 refine Tr.seqK fun K1 hK1 => ?_
 refine Tr.w hcx [] _ [] rfl rfl rfl ?_ X_fc52
 refine Tr.cD rfl (fun hc15 => ?_) (fun hc15 => ?_)
 ·
  have e1 := hq85 [some (cl bC (List.replicate 16 0))] l f S 12 T u sh 0 n OkZ hl hf hS hu (by omega) (by omega) (by omega)
  have hB1 := rowR_bd l f S 12 0 n (T,u,sh)
  dsimp only at hB1
  have hR := rooR_n (l := l) (f := f) (S := S) (st := (T,u,sh)) (show ¬ n = 0 by omega)
  obtain ⟨X,hX⟩ : ∃ X,X = rowR l f S 12 0 n (T,u,sh) := ⟨_,rfl⟩
  have hXl : X.1.length = 16 := by rw [hX]; exact rowR_len _ _ _ _ _ _ _
  rw [← hX] at e1 hB1 hR
  have hx1 := hXl
  have e84a := h84 X.1 hXl
  have e86 := hq86 [some (cl bC (List.replicate 16 0))] X.2.1 S X.2.2.1 X.2.2.2 4 [wint ((n : Nat) : Int),X.1] OkZ (by omega) (inp_len2 4 _ _ (by omega) (by omega))
  change hp 86 [C.bp 0 0,.val (nI 4),sl sC .no _] _ = _ at e86
  simp only [List.cons_append,List.nil_append] at e1 e86
  have hy := And.intro @e1 @e84a
  refine Tr.v hcx [16,1000024] _ [] rfl rfl rfl ?_ X_fc52
  refine hK1 _ ?_
  have hy := True.intro
  refine Tr.w hcx [] _ [] rfl rfl rfl ?_ X_fc52
  exact Tr.ret F_fc52
 have h0 : n = 0 := by omega
 have hR := rooR_0 (l := l) (f := f) (S := S) (st := (T,u,sh)) h0
 have e86 := hq86 [some (cl bC (List.replicate 16 0))] T S u sh 4 [wint ((n : Nat) : Int)] OkZ (by omega) (inp_len1 4 _ (by omega))
 change hp 86 [C.bp 0 0,.val (nI 4),sl sC .no _] _ = _ at e86
 simp only [List.cons_append,List.nil_append] at e86
 refine Tr.skip ?_
 refine hK1 _ ?_
 refine Tr.w hcx [] _ [] rfl rfl rfl ?_ X_fc52
 exact Tr.ret F_fc52
theorem X_fc14 {p : Prop} (e : p := by intro KZ hZ; simp -implicitDefEqProofs (disch := first | omega | (simp only [go_sem,lA,lD,lT,hrl] <;> omega) | decide) only [go_sem,↓reduceIte,Nat.reduceEqDiff,reduceCtorEq,Nat.reduceLT,Nat.reduceBEq,Nat.reduceAdd,e16,ep52,en52,b1,hy]; with_reducible exact hZ) : p := e
theorem F_fc14 {p : Prop} (e : p := by simp -implicitDefEqProofs (disch := first | omega | (simp only [go_sem,lA,lD,lT,hrl] <;> omega) | decide) only [go_sem,↓reduceIte,Nat.reduceEqDiff,reduceCtorEq]; all_goals (first | (rw [rooT_no b1]; done) | (rw [rooT_ok b1]; done))) : p := e
theorem fc14 {gl : Nat → C} {M : Nat} {pu : Nat → List C → Option C} {hp : Nat → List C → Hp → Option (C × Hp)} (hcx : CxOK (cxR gl M pu hp)) (hnr : ∀ (g : Nat) (xs : List C),noRefs 0 xs = false → pu g xs = none) (h16 : ∀ l : List Leaf,LB l → pu 16 [sl eC .no l] = some (.val (nI (valT l)))) (hn52 : ∀ xs : List C,(∃ b o,C.bp b o ∈ xs) → hp 52 xs [] = some (.top,[])) (hq52 : ∀ (pre suf : Hp) (l : List Leaf) (f : Nat) (S : List Dig) (n : Nat) (T : List (List UInt8)) (u : Nat) (sh : Bool),OkH pre → OkH suf → LZ l → f ≤ 5000 → S.length ≤ 1000000 → u ≤ S.length → T.length ≤ 800000 → n ≤ 4096 → hp 52 [.bp pre.length 0,sl eC .no l,.val (nI f),.val (nI n)] (pre ++ ([some [sl sC (.own 1) (T),sl dC .no S,.val (nI (u)),.val (.bool (sh))]] ++ suf)) = some (.agg (cl bC (rooR l f S n (T,u,sh)).1),pre ++ ([some [sl sC (.own 1) ((rooR l f S n (T,u,sh)).2.1),sl dC .no S,.val (nI ((rooR l f S n (T,u,sh)).2.2.1)),.val (.bool ((rooR l f S n (T,u,sh)).2.2.2))]] ++ suf))) (l : List Leaf) (hl : LB l) : FC Tryd.prog gl 14 [sl eC .no l] [] (.tup [.agg (cl bC (rooT l).1),.val (nI (rooT l).2)]) [] := by
 replace hcx := hcx.reN (M := 19)
 refine FC.ofA (cx := cxR gl 19 pu hp) (rs := [.cell 2 29,.tmp 3]) rfl Tryd.func14 rfl rfl rfl (by simp only [List.length_cons,List.length_nil]; decide) (by simp only [go_sem]) ?_
 simp only [ini,go_sem]
 have b1 := True.intro
 have hy := True.intro
 have e16 := h16 l hl
 have hrl := True.intro
 have en52 : ∀ x y : Nat,hp 52 [.bp 1 0,sl eC .no l,.val (nI x),.val (nI y)] [] = some (.top,[]) := fun x y => hn52 _ ⟨1,0,by simp⟩
 have ep52 : ∀ x y : Nat,pu 52 [.bp 1 0,sl eC .no l,.val (nI x),.val (nI y)] = none := fun x y => hnr 52 _ rfl
 refine Tr.w hcx [] _ [none] rfl rfl rfl ?_ X_fc14
 refine Tr.w hcx [1000007] _ [] rfl rfl rfl ?_ X_fc14
 refine Tr.seqK fun K1 hK1 => ?_
 by_cases b1 : valT l = 0
 ·
  have hok := valT_ok (l := l) (by omega)
  have hll := hok.1
  refine Tr.w hcx [] _ [] rfl rfl rfl ?_ X_fc14
  refine Tr.cF rfl ?_
  refine Tr.skip ?_
  refine hK1 _ ?_
  refine Tr.w hcx [1000013] _ [none] rfl rfl rfl ?_ X_fc14
  refine Tr.bxc 1 0 (sl sC (.own 1) []) _ rfl rfl (CLe_sln rfl) rfl ?_
  refine Tr.bxc 1 1 (sl dC .no []) _ rfl rfl (CLe_sln rfl) rfl ?_
  simp only [List.set_cons_succ,List.set_cons_zero]
  have e52 := hq52 [some (cl bC (List.replicate 16 0))] [] l 0 [] l.length [] 0 false OkZ OkH.nil hok.lz (by omega) (by simp) (by simp) (by simp) hll
  simp only [List.cons_append,List.nil_append,List.length_cons,List.length_nil,Nat.zero_add] at e52
  rw [rooR_D hll] at e52
  have hrl := rotL_len l
  have hy := @e52
  refine Tr.w hcx [] _ [] rfl rfl rfl ?_ X_fc14
  exact Tr.ret F_fc14
 skip
 refine Tr.w hcx [] _ [] rfl rfl rfl ?_ X_fc14
 refine Tr.cT rfl ?_
 refine Tr.w hcx [1000011] _ [] rfl rfl rfl ?_ X_fc14
 exact Tr.ret F_fc14
end Go.Sx
namespace Go.Sx
open Go.RowKit Go.Proofs
theorem cmp_bl : ∀ a b : List UInt8,Lib.compareBytes a b = cmpB a b
  | [],[] => by simp [Lib.compareBytes,cmpB,bl_nilr]
  | [],y :: b => by simp [Lib.compareBytes,cmpB,bl_nil]
  | x :: a,[] => by simp [Lib.compareBytes,cmpB,bl_nilr]
  | x :: a,y :: b => by
    have ih := cmp_bl a b
    unfold Lib.compareBytes cmpB
    rw [bl_cons]
    by_cases h : x < y
    · rw [if_pos h,if_pos h]; rfl
    · by_cases h' : y < x
      · have : ¬ (x :: a = y :: b) := fun e => by injection e with e _; subst e; exact h h'
        rw [if_neg h,if_pos h',if_neg h,if_pos h',if_neg this]; rfl
      · have e : x = y := by
          apply UInt8.toNat_inj.1; rw [UInt8.lt_iff_toNat_lt] at h h'; omega
        subst e
        rw [if_neg h,if_neg h,if_neg h,if_neg h,ih,cmpB]
        simp
theorem fc90 {gl : Nat → C} (a b : List UInt8) : FC Tryd.prog gl 90 [.val (str a),.val (str b)] [] (.val (.int .i64 (cmpB a b))) [] := by
  refine FC.ofBelow (vals := [str a,str b]) ⟨_,Tryd.func90,rfl,rfl⟩ fun w => ?_
  refine (Tryd.strings_Compare ⟨a.toArray⟩ ⟨b.toArray⟩ w).mono ?_
  rintro e w' ⟨rfl,rfl⟩
  refine ⟨?_,Below.refl _ _⟩
  simp [cmp_bl]
end Go.Sx
namespace Go.Sx
open Go.RowKit Go.Proofs
set_option maxRecDepth 100000
set_option maxHeartbeats 8000000
def Srt (l : List Leaf) : Prop := ∀ i j,i < j → j < l.length → bl (gt l i).1 (gt l j).1 = true
theorem incT_at {l : List Leaf} : ∀ {n i : Nat},incT l n = true → 0 < i → i < n → bl (gt l (i - 1)).1 (gt l i).1 = true
  | 0,i,h,h1,h2 => by omega
  | n + 1,i,h,h1,h2 => by
    simp only [incT,Bool.and_eq_true,Bool.or_eq_true,decide_eq_true_eq] at h
    by_cases e : i = n
    · subst e; exact h.2.resolve_left (by omega)
    · exact incT_at h.1 h1 (by omega)
theorem Srt.of {l : List Leaf} (h : incT l l.length = true) : Srt l := fun i j hij hj => by
  obtain ⟨k,rfl⟩ : ∃ k,j = i + 1 + k := ⟨j - (i + 1),by omega⟩
  induction k with
  | zero => have := incT_at h (i := i + 1) (by omega) hj; simpa using this
  | succ k ih =>
    have h1 := ih (by omega) (by omega)
    have h2 := incT_at h (i := i + 1 + (k + 1)) (by omega) hj
    rw [show i + 1 + (k + 1) - 1 = i + 1 + k by omega] at h2
    exact bl_trans h1 h2
theorem valT_srt {l : List Leaf} (h : valT l = 0) : Srt l := by
  apply Srt.of
  unfold valT at h
  split at h
  · cases h
  · split at h
    · assumption
    · cases h
theorem Srt.take {l : List Leaf} (h : Srt l) : ∀ n,n ≤ l.length → ∀ k,(∀ x,x < n → bl (gt l x).1 k = true) → cntT l k n = n
  | 0,_,k,_ => rfl
  | n + 1,hn,k,hk => by rw [cnt_T (by omega) (hk n (by omega)),Srt.take h n (by omega) k (fun x hx => hk x (by omega))]
theorem cnt_stop {l : List Leaf} {k : List UInt8} {i : Nat} : ∀ d,i + d ≤ l.length → (∀ x,i ≤ x → x < l.length → bl (gt l x).1 k = false) → cntT l k (i + d) = cntT l k i
  | 0,_,_ => rfl
  | d + 1,h,h2 => by rw [← Nat.add_assoc,cnt_F (by omega) (h2 _ (by omega) (by omega)),cnt_stop d (by omega) h2]
theorem from_eq {l : List Leaf} {k : List UInt8} {i : Nat} (hs : Srt l) (hi : i ≤ l.length) (h1 : ∀ x,x < i → bl (gt l x).1 k = true) (h2 : ∀ x,i ≤ x → x < l.length → bl (gt l x).1 k = false) : fromT l k = i := by
  obtain ⟨d,hd⟩ : ∃ d,l.length = i + d := ⟨l.length - i,by omega⟩
  unfold fromT
  rw [hd,cnt_stop d (by omega) h2,Srt.take hs i hi k h1]
def fndT (l : List Leaf) (k : List UInt8) : Bool := decide (fromT l k < l.length ∧ (gt l (fromT l k)).1 = k)
theorem cmpB_lt (a b : List UInt8) : (cmpB a b < ((0 : Nat) : Int)) = (bl a b = true) := by
  unfold cmpB; by_cases h : bl a b = true
  · rw [if_pos h]; simp [h]
  · rw [if_neg h]; split <;> simp [h]
theorem cmpB_e0 (a b : List UInt8) : (cmpB a b = 0) = (a = b) := by
  unfold cmpB; by_cases h : bl a b = true
  · rw [if_pos h]
    have : ¬ a = b := fun e => by subst e; rw [bl_irr] at h; cases h
    simp [this]
  · rw [if_neg h]; by_cases e : a = b <;> simp [e]
theorem cmpB_eq (a b : List UInt8) : (cmpB a b = ((0 : Nat) : Int)) = (a = b) := cmpB_e0 a b
theorem fnd_eq {l : List Leaf} {k : List UInt8} {i : Nat} (h : fromT l k = i) (b : Bool) (hb : b = decide (i < l.length ∧ (gt l i).1 = k)) : b = fndT l k := by subst h; exact hb
theorem bs_lo {l : List Leaf} {k : List UInt8} {h : Nat} (hs : Srt l) (hb : bl (gt l h).1 k = true) (hl : h < l.length) : ∀ x,x < h + 1 → bl (gt l x).1 k = true := fun x hx => by
  by_cases e : x = h
  · subst e; exact hb
  · exact bl_trans (hs x h (by omega) hl) hb
theorem bs_hi {l : List Leaf} {k : List UInt8} {h : Nat} (hs : Srt l) (hb : bl (gt l h).1 k = false) : ∀ x,h ≤ x → x < l.length → bl (gt l x).1 k = false := fun x hx hl => by
  by_cases e : x = h
  · subst e; exact hb
  · have h1 := hs h x (by omega) hl
    rw [Bool.eq_false_iff]; intro h2
    rw [bl_trans h1 h2] at hb; cases hb
theorem shr1 (n : Nat) : n >>> 1 = n / 2 := by rw [Nat.shiftRight_eq_div_pow]
theorem X_fc89 {p : Prop} (e : p := by intro KZ hZ; simp -implicitDefEqProofs (disch := first | omega | (simp only [go_sem,lA,lD,lT] <;> omega) | decide) only [go_sem,↓reduceIte,Nat.reduceEqDiff,reduceCtorEq,Nat.reduceLT,Nat.reduceBEq,Nat.reduceAdd,h90,hy]; with_reducible exact hZ) : p := e
theorem F_fc89 {p : Prop} (e : p := by simp -implicitDefEqProofs (disch := first | omega | (simp only [go_sem,lA,lD,lT] <;> omega) | decide) only [go_sem,↓reduceIte,Nat.reduceEqDiff,reduceCtorEq]; all_goals (rfl)) : p := e
theorem fc89 {gl : Nat → C} {M : Nat} {pu : Nat → List C → Option C} (hcx : CxOK (cxP gl M pu)) (h90 : ∀ a b : List UInt8,pu 90 [.val (str a),.val (str b)] = some (.val (.int .i64 (cmpB a b)))) (x : Leaf) (k : List UInt8) : FC Tryd.prog gl 89 [.agg (eC x),.val (str k)] [] (.val (.int .i64 (cmpB x.1 k))) [] := by
 replace hcx := hcx.reN (M := 9)
 refine FC.ofA (cx := cxP gl 9 pu) (rs := [.tmp 4]) rfl Tryd.func89 rfl rfl rfl (by simp only [List.length_cons,List.length_nil]; decide) (by simp only [go_sem]) ?_
 simp only [ini,go_sem]
 have hy := True.intro
 refine Tr.w hcx [] _ [none] rfl rfl rfl ?_ X_fc89
 refine Tr.w hcx [1000008] _ [] rfl rfl rfl ?_ X_fc89
 exact Tr.ret F_fc89
theorem X_fc88 {p : Prop} (e : p := by intro KZ hZ; simp -implicitDefEqProofs (disch := first | omega | (simp only [go_sem,lA,lD,lT] <;> omega) | decide) only [go_sem,↓reduceIte,Nat.reduceEqDiff,reduceCtorEq,Nat.reduceLT,Nat.reduceBEq,Nat.reduceAdd,h89,shr1,b1,b2,hy]; with_reducible exact hZ) : p := e
theorem F_fc88 {p : Prop} (e : p := by simp -implicitDefEqProofs (disch := first | omega | (simp only [go_sem,lA,lD,lT] <;> omega) | decide) only [go_sem,↓reduceIte,Nat.reduceEqDiff,reduceCtorEq]; all_goals (all_goals (rw [← fnd_eq hf _ rfl]; simp [hf,b2,cmpB_e0]))) : p := e
theorem fc88 {gl : Nat → C} {M : Nat} {pu : Nat → List C → Option C} (hcx : CxOK (cxP gl M pu)) (h89 : ∀ (x : Leaf) (k : List UInt8),pu 89 [.agg (eC x),.val (str k)] = some (.val (.int .i64 (cmpB x.1 k)))) (l : List Leaf) (k : List UInt8) (hs : Srt l) (hl : l.length ≤ 1000000) : FC Tryd.prog gl 88 [sl eC .no l,.val (str k),.fn 89 []] [] (.tup [.val (nI (fromT l k)),.val (.bool (fndT l k))]) [] := by
 replace hcx := hcx.reN (M := 49)
 refine FC.ofA (cx := cxP gl 49 pu) (rs := [.tmp 6,.tmp 7]) rfl Tryd.func88 rfl rfl rfl (by simp only [List.length_cons,List.length_nil]; decide) (by simp only [go_sem]) ?_
 simp only [ini,go_sem]
 have b1 := True.intro
 have b2 := True.intro
 have hy := True.intro
 refine Tr.w hcx [] _ [] rfl rfl rfl ?_ X_fc88
 refine Tr.w hcx [1000013] _ [] rfl rfl rfl ?_ X_fc88
 refine Tr.w hcx [1000014] _ [] rfl rfl rfl ?_ X_fc88
 refine Tr.k [0,1,2,8,9,10] ?_
 refine Tr.seqK fun K1 hK1 => ?_
 refine Tr.blk ?_
 refine Tr.loopI (α := Nat × Nat) (fun a => [(0,?v0_1),(1,?v1_1),(2,?v2_1),(8,?v8_1),(9,.val (nI a.1)),(10,.val (nI a.2))]) (fun a => ?h_1) (fun a => a.1 ≤ a.2 ∧ a.2 ≤ l.length ∧ (∀ x,x < a.1 → bl (gt l x).1 k = true) ∧ (∀ x,a.2 ≤ x → x < l.length → bl (gt l x).1 k = false)) (fun a => a.2 - a.1) ((0,l.length)) ⟨Nat.zero_le _,Nat.le_refl _,fun x hx => absurd hx (Nat.not_lt_zero x),fun x h1 h2 => by omega⟩ ?le_1 ?hh_1 ?bd_1
 case hh_1 => exact rfl
 case le_1 => exact LT
 rintro ⟨i,j⟩ ⟨hi,hj,hlo,hhi⟩
 simp only [] at hi hj hlo hhi
 have hh2 : (i + j) / 2 * 2 ≤ i + j := by omega
 have hh3 : i + j < (i + j) / 2 * 2 + 2 := by omega
 obtain ⟨h,hh⟩ : ∃ h,h = (i + j) / 2 := ⟨_,rfl⟩
 rw [← hh] at hh2 hh3
 refine Tr.seqK fun K2 hK2 => ?_
 refine Tr.w hcx [] _ [] rfl rfl rfl ?_ X_fc88
 refine Tr.cD rfl (fun hc17 => ?_) (fun hc17 => ?_)
 ·
  refine Tr.skip ?_
  refine hK2 _ ?_
  refine Tr.blk ?_
  refine Tr.seqK fun K3 hK3 => ?_
  refine Tr.rg hcx [1000023] _ [] rfl rfl rfl ?_
  simp -implicitDefEqProofs (disch := first | omega | (simp only [go_sem,lA,lD,lT] <;> omega) | decide) only [go_sem,↓reduceIte,Nat.reduceEqDiff,reduceCtorEq,Nat.reduceLT,Nat.reduceBEq,Nat.reduceAdd,h89,shr1,← hh]
  refine hK3 _ ?_
  by_cases b1 : bl (gt l h).1 k = true
  ·
   have c1 : (cmpB (gt l h).1 k < ((0 : Nat) : Int)) = True := by rw [cmpB_lt,b1]; simp
   have hy := @c1
   refine Tr.w hcx [] _ [] rfl rfl rfl ?_ X_fc88
   refine Tr.cT rfl ?_
   have hy := True.intro
   refine Tr.v hcx [1000033] _ [] rfl rfl rfl ?_ X_fc88
   exact ⟨(h + 1,j),⟨⟨by simp only []; omega,hj,bs_lo hs b1 (by omega),hhi⟩,O1⟩,LT,rfl⟩
  have c1 : (cmpB (gt l h).1 k < ((0 : Nat) : Int)) = False := by rw [cmpB_lt]; simpa using b1
  replace b1 := Bool.eq_false_iff.2 b1
  have hy := @c1
  refine Tr.w hcx [] _ [] rfl rfl rfl ?_ X_fc88
  refine Tr.cF rfl ?_
  have hy := True.intro
  refine Tr.v hcx [1000034] _ [] rfl rfl rfl ?_ X_fc88
  exact ⟨(i,h),⟨⟨by simp only []; omega,by simp only []; omega,hlo,bs_hi hs b1⟩,O1⟩,LT,rfl⟩
 refine Tr.exit ?_
 refine hK1 _ ?_
 by_cases b2 : i < l.length
 ·
  have hij : i = j := by omega
  have hf := from_eq hs (show i ≤ l.length by omega) hlo (by rw [hij]; exact hhi)
  have hy := @cmpB_eq
  refine Tr.w hcx [1000035,1000048] [some 35,some 36,some 37,some 38,some 39,some 40,some 41,some 42,some 43,some 44,some 45,some 46,some 47,some 48,some 6,some 7] [] rfl rfl rfl ?_ X_fc88
  exact Tr.ret F_fc88
 have hij : i = j := by omega
 have hf := from_eq hs (show i ≤ l.length by omega) hlo (by rw [hij]; exact hhi)
 have hy := @cmpB_eq
 refine Tr.w hcx [1000035,1000048] [some 35,some 36,some 37,some 38,some 39,some 40,some 41,some 42,some 43,some 44,some 45,some 46,some 47,some 48,some 6,some 7] [] rfl rfl rfl ?_ X_fc88
 exact Tr.ret F_fc88
theorem X_fc56 {p : Prop} (e : p := by intro KZ hZ; simp -implicitDefEqProofs (disch := first | omega | (simp only [go_sem,lA,lD,lT] <;> omega) | decide) only [go_sem,↓reduceIte,Nat.reduceEqDiff,reduceCtorEq,Nat.reduceLT,Nat.reduceBEq,Nat.reduceAdd,e88,hy]; with_reducible exact hZ) : p := e
theorem F_fc56 {p : Prop} (e : p := by simp -implicitDefEqProofs (disch := first | omega | (simp only [go_sem,lA,lD,lT] <;> omega) | decide) only [go_sem,↓reduceIte,Nat.reduceEqDiff,reduceCtorEq]; all_goals (rfl)) : p := e
theorem fc56 {gl : Nat → C} {M : Nat} {pu : Nat → List C → Option C} (hcx : CxOK (cxP gl M pu)) (h88 : ∀ (l : List Leaf) (k : List UInt8),Srt l → l.length ≤ 1000000 → pu 88 [sl eC .no l,.val (str k),.fn 89 []] = some (.tup [.val (nI (fromT l k)),.val (.bool (fndT l k))])) (l : List Leaf) (k : List UInt8) (hs : Srt l) (hl : l.length ≤ 1000000) : FC Tryd.prog gl 56 [sl eC .no l,.val (str k)] [] (.val (nI (fromT l k))) [] := by
 replace hcx := hcx.reN (M := 14)
 refine FC.ofA (cx := cxP gl 14 pu) (rs := [.tmp 4]) rfl Tryd.func56 rfl rfl rfl (by simp only [List.length_cons,List.length_nil]; decide) (by simp only [go_sem]) ?_
 simp only [ini,go_sem]
 have hy := True.intro
 have e88 := h88 l k hs hl
 refine Tr.w hcx [] _ [] rfl rfl rfl ?_ X_fc56
 refine Tr.w hcx [1000011,1000012] _ [] rfl rfl rfl ?_ X_fc56
 refine Tr.w hcx [1000013] _ [] rfl rfl rfl ?_ X_fc56
 exact Tr.ret F_fc56
end Go.Sx
namespace Go.Sx
open Go.RowKit
section
variable {cx : Cx} {Q : Ex → St → Prop} {e : List (Nat × C)} {h : Hp} {c : Code}
theorem Tr.m1 (hcx : CxOK cx) (ρ : List Nat) {e' : List (Nat × C)} {h' : Hp} (H : Tr cx 0 c ⟨A e',h'⟩ Q)
    (hρ : okρ 0 ρ := by exact ⟨by decide,by decide,fun j hj => absurd hj (Nat.not_lt_zero j)⟩)
    (E : ∀ K : List (Nat × C) → Hp → Prop,K e' h' → K (mapE (mvC ρ) e) (mvH ρ h) := by
      intro KZ hZ
      simp -implicitDefEqProofs only [mapE_nil,mapE_cons,atG_mv,mvH_eq,mvHa_nil,mvHa_cons,hget_0,hget_S,Option.map_some,Option.map_none,mvCs_cl,mvCs_f,mvCs_nil,mvCs_cons,mvC_val,mvC_top,mvC_sl,mvC_gv,mvC_sv,mvC_bp,mvC_agg,mvC_kp,mvGv_some,mvGv_none,mvSv_some,mvSv_none,mvBp_some,mvBp_none,loc_nil,loc_cons,↓reduceIte,Nat.reduceEqDiff,reduceCtorEq,Nat.reduceAdd,Nat.zero_add,Nat.one_ne_zero,Nat.zero_ne_one,mvC_fn,mvC_bt,mvBt_some,mvBt_none,mvC_mp,mvMp_some,mvMp_none]
      with_reducible exact hZ) : Tr cx 0 c ⟨A e,h⟩ Q :=
  Tr.mvA hcx ρ hρ (E (fun x y => Tr cx 0 c ⟨A x,y⟩ Q) H)
end
end Go.Sx
namespace Go.Sx
open Go.RowKit Go.Proofs
set_option maxRecDepth 100000
set_option maxHeartbeats 8000000
theorem nilS_ne {l : List Leaf} (h : l ≠ []) : (sl eC .no l).nilS? = some false := by
  cases l with
  | nil => exact absurd rfl h
  | cons x l => rfl
theorem bsA_leaf0 (u : TypeDesc) (y : Nat) (z : List Value) (hz : z.length = 2) (h1 : z.all (·.oneCell') = true) : bsA (some ⟨u,2,y,z⟩) 0 [] = some (vp (sl eC .full [])) := by
  unfold bsA
  simp only [hz,h1]
  rw [if_pos ⟨by decide,by decide,trivial,trivial⟩]
  rfl
theorem bsA_dig0 (u : TypeDesc) (y : Nat) (z : List Value) (hz : z.length = 16) (h1 : z.all (·.oneCell') = true) : bsA (some ⟨u,16,y,z⟩) 0 [] = some (vp (sl dC .full [])) := by
  unfold bsA
  simp only [hz,h1]
  rw [if_pos ⟨by decide,by decide,trivial,trivial⟩]
  rfl
attribute [go_sem] bsA_leaf0 bsA_dig0
theorem g33 : Tryd.prog.eqGuardType Tryd.prog.depth 33 = false := by kernel_rfl
theorem eq33n {l : List Leaf} (h : l ≠ []) (op : BinOp) : binPlan Tryd.prog op 33 (sl eC .no l) (.val (.slice none 0 0)) = eqR op false := eq_sn op (nilS_ne h) (fun v e => by cases e) td33 g33
theorem eq33v (a : Option Addr) (n c : Nat) (op : BinOp) : binPlan Tryd.prog op 33 (.val (.slice a n c)) (.val (.slice none 0 0)) = eqR op a.isNone := eq_vn op a n c td33 g33
def rowG (l : List Leaf) (a b : Nat) : Dig := ⟨rowD l 12 a b,rowD_len _ _ _ _⟩
theorem gt_sub (l : List Leaf) (a n x : Nat) (h : a + x < l.length) (hx : x < n) : gt ((l.drop a).take n) x = gt l (a + x) := by
  simp only [gt,List.getD,List.getElem?_take,List.getElem?_drop,if_pos hx]
theorem rowD_sub (l : List Leaf) (a n : Nat) : ∀ d x y,a + y ≤ l.length → x < y → y ≤ n → rowD ((l.drop a).take n) d x y = rowD l d (a + x) (a + y)
  | 0,x,y,h1,h2,h3 => by
    show lefT _ = lefT _
    rw [gt_sub l a n x (by omega) (by omega)]
  | d + 1,x,y,h1,h2,h3 => by
    have e : a + y - (a + x) = y - x := by omega
    unfold rowD
    rw [e]
    by_cases h : y - x ≤ 1
    · rw [if_pos h,if_pos h,gt_sub l a n x (by omega) (by omega)]
    · have hh := half_lt (n := y - x) (by omega)
      rw [if_neg h,if_neg h,rowD_sub l a n d x _ (by omega) (by omega) (by omega),rowD_sub l a n d _ y (by omega) (by omega) (by omega),Nat.add_assoc]
theorem digT_sub {l : List Leaf} {a b : Nat} (h1 : a < b) (h2 : b ≤ l.length) : digT ((l.drop a).take (b - a)) = rowD l 12 a b := by
  have hl : ((l.drop a).take (b - a)).length = b - a := by rw [List.length_take,List.length_drop]; omega
  unfold digT
  rw [hl,rowD_sub l a (b - a) 12 0 (b - a) (by omega) (by omega) (Nat.le_refl _)]
  congr 1
  omega
def sdsT (l : List Leaf) (f e : Nat) : Nat → Nat → Nat → List Dig
  | 0,a,b => if b ≤ f ∨ e ≤ a then [rowG l a b] else []
  | d + 1,a,b => if b ≤ f ∨ e ≤ a then [rowG l a b] else if b - a ≤ 1 then [] else sdsT l f e d a (a + halfT (b - a)) ++ sdsT l f e d (a + halfT (b - a)) b
section
variable {l : List Leaf} {f e d a b : Nat}
theorem sds_s (h : b ≤ f ∨ e ≤ a) : sdsT l f e d a b = [rowG l a b] := by cases d <;> simp only [sdsT,if_pos h]
theorem sds_l (h : ¬ (b ≤ f ∨ e ≤ a)) (h2 : b - a ≤ 1) : sdsT l f e d a b = [] := by cases d <;> simp only [sdsT,if_neg h,if_pos h2]
theorem sds_n (h : ¬ (b ≤ f ∨ e ≤ a)) (h2 : ¬ b - a ≤ 1) : sdsT l f e (d + 1) a b = sdsT l f e d a (a + halfT (b - a)) ++ sdsT l f e d (a + halfT (b - a)) b := by simp only [sdsT,if_neg h,if_neg h2]
end
theorem sds_len (l : List Leaf) (f e : Nat) : ∀ d a b,(sdsT l f e d a b).length ≤ 2 ^ d
  | 0,a,b => by unfold sdsT; split <;> simp
  | d + 1,a,b => by
    have h1 := sds_len l f e d a (a + halfT (b - a))
    have h2 := sds_len l f e d (a + halfT (b - a)) b
    have e2 : 2 ^ (d + 1) = 2 * 2 ^ d := by rw [Nat.pow_succ]; omega
    have hp := Nat.two_pow_pos d
    unfold sdsT; split
    · simp; omega
    · split
      · simp
      · rw [List.length_append]; omega
theorem at91_S (l : List Leaf) (f e q d : Nat) : atG 91 [.kp [.val (nI f)],.kp [.val (nI e)],.bp q 0,.kp [sl eC .no l]] (d + 1) = .kp [.fn 91 [.kp [.val (nI f)],.kp [.val (nI e)],.bp q 0,.kp [sl eC .no l],atG 91 [.kp [.val (nI f)],.kp [.val (nI e)],.bp q 0,.kp [sl eC .no l]] d]] := rfl
theorem OkL.sub {l : List Leaf} (h : OkL l) {a b : Nat} (hb : b ≤ l.length) : OkL ((l.drop a).take (b - a)) := by
  have hl := h.1
  refine ⟨by rw [List.length_take,List.length_drop]; omega,fun i hi => ?_⟩
  rw [List.length_take,List.length_drop] at hi
  rw [gt_sub l a (b - a) i (by omega) (by omega)]; exact h.2 _ (by omega)
theorem resL_z (cx : Cx) (st : St) : resL cx st [] = some (.tup []) := rfl
attribute [go_sem] resL_z
theorem prf_nr (x y : Value) (lv : List Leaf) (S : List Dig) : nrH 1 [some [.val x,.val y,sl eC .no lv,sl dC (.own 16) S]] = true := by simp only [nrH_some,nrH_nil,go_sem,Bool.and_self]
theorem rowG_len (l : List Leaf) (a b : Nat) : (rowG l a b).1.length = 16 := (rowG l a b).2
def shdT (l : List Leaf) (f e : Nat) : List Dig := if l.length = 0 then [] else sdsT l f e 12 0 l.length
theorem shd_0 {l : List Leaf} {f e : Nat} (h : l.length = 0) : shdT l f e = [] := if_pos h
theorem shd_n {l : List Leaf} {f e : Nat} (h : ¬ l.length = 0) : shdT l f e = sdsT l f e 12 0 l.length := if_neg h
theorem X_fc63a {p : Prop} (e : p := by intro KZ hZ; simp -implicitDefEqProofs (disch := first | omega | (simp only [go_sem,lA,lD,lT] <;> omega) | decide) only [go_sem,↓reduceIte,Nat.reduceEqDiff,reduceCtorEq,Nat.reduceLT,Nat.reduceBEq,Nat.reduceAdd,e33,hy]; with_reducible exact hZ) : p := e
theorem F_fc63a {p : Prop} (e : p := by simp -implicitDefEqProofs (disch := first | omega | (simp only [go_sem,lA,lD,lT] <;> omega) | decide) only [go_sem,↓reduceIte,Nat.reduceEqDiff,reduceCtorEq]; all_goals (rfl)) : p := e
theorem fc63a {gl : Nat → C} {M : Nat} {pu : Nat → List C → Option C} (hcx : CxOK (cxP gl M pu)) (l : List Leaf) (hl : l.length ≤ 1000000) (h0 : l ≠ []) : FC Tryd.prog gl 63 [sl eC .no l] [] (sl eC (.own 2) l) [] := by
 replace hcx := hcx.reN (M := 8)
 refine FC.ofA (cx := cxP gl 8 pu) (rs := [.tmp 2]) rfl Tryd.func63 rfl rfl rfl (by simp only [List.length_cons,List.length_nil]; decide) (by simp only [go_sem]) ?_
 simp only [ini,go_sem]
 have hy := True.intro
 have e33 := @eq33n l h0
 refine Tr.w hcx [] _ [] rfl rfl rfl ?_ X_fc63a
 refine Tr.seqK fun K1 hK1 => ?_
 refine Tr.w hcx [] _ [] rfl rfl rfl ?_ X_fc63a
 refine Tr.cF rfl ?_
 refine Tr.skip ?_
 refine hK1 _ ?_
 refine Tr.w hcx [5,1000007] _ [] rfl rfl rfl ?_ X_fc63a
 exact Tr.ret F_fc63a
theorem X_fc63b {p : Prop} (e : p := by intro KZ hZ; simp -implicitDefEqProofs (disch := first | omega | (simp only [go_sem,lA,lD,lT] <;> omega) | decide) only [go_sem,↓reduceIte,Nat.reduceEqDiff,reduceCtorEq,Nat.reduceLT,Nat.reduceBEq,Nat.reduceAdd,eq33v,Option.isNone_none,hy]; with_reducible exact hZ) : p := e
theorem F_fc63b {p : Prop} (e : p := by simp -implicitDefEqProofs (disch := first | omega | (simp only [go_sem,lA,lD,lT] <;> omega) | decide) only [go_sem,↓reduceIte,Nat.reduceEqDiff,reduceCtorEq]; all_goals (rfl)) : p := e
theorem fc63b {gl : Nat → C} {M : Nat} {pu : Nat → List C → Option C} (hcx : CxOK (cxP gl M pu)) (cap : Nat) (hc : cap ≤ maxLen) : FC Tryd.prog gl 63 [.val (.slice none 0 cap)] [] (sl eC (.own 2) []) [] := by
 replace hcx := hcx.reN (M := 8)
 refine FC.ofA (cx := cxP gl 8 pu) (rs := [.tmp 2]) rfl Tryd.func63 rfl rfl rfl (by simp only [List.length_cons,List.length_nil]; decide) (by simp only [go_sem]) ?_
 simp only [ini,go_sem]
 have hy := True.intro
 refine Tr.w hcx [] _ [] rfl rfl rfl ?_ X_fc63b
 refine Tr.seqK fun K1 hK1 => ?_
 refine Tr.w hcx [] _ [] rfl rfl rfl ?_ X_fc63b
 refine Tr.cT rfl ?_
 refine Tr.w hcx [] _ [] rfl rfl rfl ?_ X_fc63b
 refine Tr.live [(2,sl eC (.own 2) [])] LT ?_
 exact Tr.ret F_fc63b
theorem X_fc63c {p : Prop} (e : p := by intro KZ hZ; simp -implicitDefEqProofs (disch := first | omega | (simp only [go_sem,lA,lD,lT] <;> omega) | decide) only [go_sem,↓reduceIte,Nat.reduceEqDiff,reduceCtorEq,Nat.reduceLT,Nat.reduceBEq,Nat.reduceAdd,eq33v,Option.isNone_some,hy]; with_reducible exact hZ) : p := e
theorem F_fc63c {p : Prop} (e : p := by simp -implicitDefEqProofs (disch := first | omega | (simp only [go_sem,lA,lD,lT] <;> omega) | decide) only [go_sem,↓reduceIte,Nat.reduceEqDiff,reduceCtorEq]; all_goals (rfl)) : p := e
theorem fc63c {gl : Nat → C} {M : Nat} {pu : Nat → List C → Option C} (hcx : CxOK (cxP gl M pu)) (x : Addr) (cap : Nat) (hc : cap ≤ maxLen) : FC Tryd.prog gl 63 [.val (.slice (some x) 0 cap)] [] (sl eC (.own 2) []) [] := by
 replace hcx := hcx.reN (M := 8)
 refine FC.ofA (cx := cxP gl 8 pu) (rs := [.tmp 2]) rfl Tryd.func63 rfl rfl rfl (by simp only [List.length_cons,List.length_nil]; decide) (by simp only [go_sem]) ?_
 simp only [ini,go_sem]
 have hy := True.intro
 refine Tr.w hcx [] _ [] rfl rfl rfl ?_ X_fc63c
 refine Tr.seqK fun K1 hK1 => ?_
 refine Tr.w hcx [] _ [] rfl rfl rfl ?_ X_fc63c
 refine Tr.cF rfl ?_
 refine Tr.skip ?_
 refine hK1 _ ?_
 refine Tr.live [(0,sl eC .no [])] (by simp only [Le_cons,Le_nil,↓A_cons,↓reduceIte,Nat.reduceEqDiff,and_true]; exact CLe.ofVal _ _ hc) ?_
 refine Tr.w hcx [5,1000007] _ [] rfl rfl rfl ?_ X_fc63c
 exact Tr.ret F_fc63c
theorem X_fc91z {p : Prop} (e : p := by intro KZ hZ; simp -implicitDefEqProofs (disch := first | omega | (simp only [go_sem,lA,lD,lT,hgl] <;> omega) | decide) only [go_sem,↓reduceIte,Nat.reduceEqDiff,reduceCtorEq,Nat.reduceLT,Nat.reduceBEq,Nat.reduceAdd,b1,b2,hy]; with_reducible exact hZ) : p := e
theorem Y_fc91z {p : Prop} (e : p := by intro KZ hZ; simp -implicitDefEqProofs (disch := first | omega | (simp only [go_sem,lA,lD,lT,hgl] <;> omega) | decide) only [go_sem,↓reduceIte,Nat.reduceEqDiff,reduceCtorEq,Nat.reduceLT,Nat.reduceBEq,Nat.reduceAdd,b1,b2,hy]; with_reducible refine And.intro ?_ hZ; first | exact rfl | decide) : p := e
theorem F_fc91z {p : Prop} (e : p := by simp -implicitDefEqProofs (disch := first | omega | (simp only [go_sem,lA,lD,lT,hgl] <;> omega) | decide) only [go_sem,↓reduceIte,Nat.reduceEqDiff,reduceCtorEq]; all_goals (first | (rw [hR]; done) | (rw [hR,List.append_nil]; done) | (rw [hR,List.append_assoc]; done) | (rw [hR]; rfl))) : p := e
theorem fc91z {gl : Nat → C} {M0 : Nat} {pu : Nat → List C → Option C} {hp : Nat → List C → Hp → Option (C × Hp)} (hcx : CxOK (cxR gl M0 pu hp)) (l : List Leaf) (f e z : Nat) (lv : List Leaf) (S : List Dig) (d a b : Nat) (hl : OkL l) (hf : f ≤ 5000 ∧ e ≤ 5000) (hab : a < b ∧ b ≤ l.length ∧ b - a ≤ 2 ^ d) (hS : S.length ≤ 100000 - 2 ^ d) (hd : d ≤ 12) (hz : b ≤ f ∨ e ≤ a ∨ b - a ≤ 1) (hnr : ∀ (g : Nat) (xs : List C),noRefs 0 xs = false → pu g xs = none) (h51 : ∀ l : List Leaf,OkL l → 0 < l.length → pu 51 [sl eC .no l] = some (.agg (cl bC (digT l)))) : FC Tryd.prog gl 91 [.val (nI a),.val (nI b),.kp [.val (nI f)],.kp [.val (nI e)],.bp 0 0,.kp [sl eC .no l],atG 91 [.kp [.val (nI f)],.kp [.val (nI e)],.bp 0 0,.kp [sl eC .no l]] d] [some [.val (nI f),.val (nI z),sl eC .no lv,sl dC (.own 16) (S)]] (.tup []) [some [.val (nI f),.val (nI z),sl eC .no lv,sl dC (.own 16) (S ++ sdsT l f e d a b)]] := by
 replace hcx := hcx.reN (M := 45)
 refine FC.ofT (cx := cxR gl 45 pu hp) (rs := []) rfl Tryd.func91 rfl rfl rfl (by simp only [List.length_cons,List.length_nil]; decide) (by simp only [go_sem]) (prf_nr _ _ _ _) ?_
 simp only [ini,go_sem]
 have b1 := True.intro
 have b2 := True.intro
 have hy := True.intro
 have hll := hl.1
 have hgl := rowG_len l
 refine Tr.blk ?_
 by_cases b1 : b ≤ f
 ·
  refine Tr.w hcx [1000018] [some 11,some 12,some 13,some 14,some 15,some 16,some 17,some 18,some 10] [] rfl rfl rfl ?_ X_fc91z
  refine Tr.cT rfl ?_
  have hR := sds_s (l := l) (d := d) (f := f) (e := e) (a := a) (b := b) (Or.inl b1)
  have e51 : pu 51 [sl eC .no ((l.drop a).take (b - a))] = some (.agg (cl bC (rowG l a b).1)) := (h51 _ (hl.sub hab.2.1) (by rw [List.length_take,List.length_drop]; omega)).trans (by rw [digT_sub hab.1 hab.2.1]; rfl)
  have hy := @e51
  refine Tr.vD hcx hMOR [20] _ [] rfl rfl rfl rfl ?_ Y_fc91z
  exact F_fc91z
 by_cases b2 : e ≤ a
 ·
  refine Tr.w hcx [1000018] [some 11,some 12,some 13,some 14,some 15,some 16,some 17,some 18,some 10] [] rfl rfl rfl ?_ X_fc91z
  refine Tr.cT rfl ?_
  have hR := sds_s (l := l) (d := d) (f := f) (e := e) (a := a) (b := b) (Or.inr b2)
  have e51 : pu 51 [sl eC .no ((l.drop a).take (b - a))] = some (.agg (cl bC (rowG l a b).1)) := (h51 _ (hl.sub hab.2.1) (by rw [List.length_take,List.length_drop]; omega)).trans (by rw [digT_sub hab.1 hab.2.1]; rfl)
  have hy := @e51
  refine Tr.vD hcx hMOR [20] _ [] rfl rfl rfl rfl ?_ Y_fc91z
  exact F_fc91z
 refine Tr.w hcx [1000018] [some 11,some 12,some 13,some 14,some 15,some 16,some 17,some 18,some 10] [] rfl rfl rfl ?_ X_fc91z
 refine Tr.cF rfl ?_
 have h29 : (1 < b - a) = False := eq_false (by omega)
 have hR := sds_l (l := l) (d := d) (f := f) (e := e) (a := a) (b := b) (fun h => h.elim b1 b2) (by omega)
 have hy := @h29
 refine Tr.w hcx [1000033] _ [] rfl rfl rfl ?_ X_fc91z
 refine Tr.cF rfl ?_
 refine Tr.skip ?_
 exact F_fc91z
theorem X_fc91s {p : Prop} (e : p := by intro KZ hZ; simp -implicitDefEqProofs (disch := first | omega | (simp only [go_sem,lA,lD,lT,hgl] <;> omega) | decide) only [go_sem,↓reduceIte,Nat.reduceEqDiff,reduceCtorEq,Nat.reduceLT,Nat.reduceBEq,Nat.reduceAdd,hy]; with_reducible exact hZ) : p := e
theorem F_fc91s {p : Prop} (e : p := by simp -implicitDefEqProofs (disch := first | omega | (simp only [go_sem,lA,lD,lT,hgl] <;> omega) | decide) only [go_sem,↓reduceIte,Nat.reduceEqDiff,reduceCtorEq]; all_goals (rfl)) : p := e
theorem fc91s {gl : Nat → C} {M0 : Nat} {pu : Nat → List C → Option C} {hp : Nat → List C → Hp → Option (C × Hp)} (hcx : CxOK (cxR gl M0 pu hp)) (l : List Leaf) (f e z : Nat) (lv : List Leaf) (S : List Dig) (d a b : Nat) (hl : OkL l) (hf : f ≤ 5000 ∧ e ≤ 5000) (hab : a < b ∧ b ≤ l.length ∧ b - a ≤ 2 ^ (d + 1)) (hS : S.length ≤ 100000 - 2 ^ (d + 1)) (hd : (d + 1) ≤ 12) (hq91 : ∀ (S : List Dig) (a b : Nat),S.length ≤ 100000 - 2 ^ d → a < b ∧ b ≤ l.length ∧ b - a ≤ 2 ^ d → hp 91 [.val (nI a),.val (nI b),.kp [.val (nI f)],.kp [.val (nI e)],.bp 0 0,.kp [sl eC .no l],atG 91 [.kp [.val (nI f)],.kp [.val (nI e)],.bp 0 0,.kp [sl eC .no l]] d] [some [.val (nI f),.val (nI z),sl eC .no lv,sl dC (.own 16) (S)]] = some (.tup [],[some [.val (nI f),.val (nI z),sl eC .no lv,sl dC (.own 16) (S ++ sdsT l f e d a b)]])) (hz1 : ¬ b ≤ f) (hz2 : ¬ e ≤ a) (hz3 : ¬ b - a ≤ 1) (hnr : ∀ (g : Nat) (xs : List C),noRefs 0 xs = false → pu g xs = none) (hn91 : ∀ xs : List C,(∃ b o,C.bp b o ∈ xs) → hp 91 xs [] = some (.top,[])) (h81 : ∀ x y : Nat,x ≤ y ∧ y ≤ 4611686018427387000 → pu 81 [.val (nI x),.val (nI y)] = some (.val (nI (x + halfT (y - x))))) : FC Tryd.prog gl 91 [.val (nI a),.val (nI b),.kp [.val (nI f)],.kp [.val (nI e)],.bp 0 0,.kp [sl eC .no l],atG 91 [.kp [.val (nI f)],.kp [.val (nI e)],.bp 0 0,.kp [sl eC .no l]] (d + 1)] [some [.val (nI f),.val (nI z),sl eC .no lv,sl dC (.own 16) (S)]] (.tup []) [some [.val (nI f),.val (nI z),sl eC .no lv,sl dC (.own 16) (S ++ sdsT l f e (d + 1) a b)]] := by
 replace hcx := hcx.reN (M := 45)
 refine FC.ofT (cx := cxR gl 45 pu hp) (rs := []) rfl Tryd.func91 rfl rfl rfl (by simp only [List.length_cons,List.length_nil]; decide) (by simp only [go_sem]) (prf_nr _ _ _ _) ?_
 simp only [ini,go_sem]
 have hy := True.intro
 have hll := hl.1
 have hgl := rowG_len l
 have b1 := hz1
 have b2 := hz2
 have h29 : (1 < b - a) = True := eq_true (by omega)
 refine Tr.blk ?_
 have hy := And.intro @b1 @b2
 refine Tr.w hcx [1000018] [some 11,some 12,some 13,some 14,some 15,some 16,some 17,some 18,some 10] [] rfl rfl rfl ?_ X_fc91s
 refine Tr.cF rfl ?_
 have hy := @h29
 refine Tr.w hcx [1000033] _ [] rfl rfl rfl ?_ X_fc91s
 refine Tr.cT rfl ?_
 have e81 := h81 a b (by omega)
 have hh := half_lt (n := b - a) (by omega)
 have hh2 := half_le (by omega) hab.2.2
 have e2d : 2 ^ (d + 1) = 2 * 2 ^ d := by rw [Nat.pow_succ]; omega
 have hp3 : 2 ^ (d + 1) ≤ 2 ^ 12 := Nat.pow_le_pow_right (by omega) hd
 have hs1 := sds_len l f e d a (a + halfT (b - a))
 have e1 := hq91 S a (a + halfT (b - a)) (by omega) (by omega)
 have e2 := hq91 (S ++ sdsT l f e d a (a + halfT (b - a))) (a + halfT (b - a)) b (by rw [List.length_append]; omega) (by omega)
 have hR := sds_n (l := l) (d := d) (f := f) (e := e) (a := a) (b := b) (fun h => h.elim b1 b2) hz3
 rw [List.append_assoc,← hR] at e2
 have en : ∀ x y : Nat,hp 91 [.val (nI x),.val (nI y),.kp [.val (nI f)],.kp [.val (nI e)],.bp 0 0,.kp [sl eC .no l],atG 91 [.kp [.val (nI f)],.kp [.val (nI e)],.bp 0 0,.kp [sl eC .no l]] d] [] = some (.top,[]) := fun x y => hn91 _ ⟨0,0,by simp⟩
 have ep : ∀ x y : Nat,pu 91 [.val (nI x),.val (nI y),.kp [.val (nI f)],.kp [.val (nI e)],.bp 0 0,.kp [sl eC .no l],atG 91 [.kp [.val (nI f)],.kp [.val (nI e)],.bp 0 0,.kp [sl eC .no l]] d] = none := fun x y => hnr 91 _ rfl
 have hy := @e81
 refine Tr.w hcx [1000036] _ [] rfl rfl rfl ?_ X_fc91s
 refine Tr.k [0,1,6,9] ?_
 have hy := And.intro @at91_S (And.intro @e1 (And.intro @en @ep))
 refine Tr.w hcx [] _ [] rfl rfl rfl ?_ X_fc91s
 have hy := And.intro @at91_S (And.intro @e2 (And.intro @en @ep))
 refine Tr.v hcx [] _ [] rfl rfl rfl ?_ X_fc91s
 exact F_fc91s
end Go.Sx
