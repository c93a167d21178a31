/-
   And what follows.
-/
import Derived.Test.YtmoaeemdlompaaaDoorPap
set_option linter.unusedSimpArgs false
set_option linter.unusedVariables false
namespace Go.Sx
open Go.RowKit Go.Proofs
def bl (a b : List UInt8) : Bool := Op.bytesLess a b
theorem bl_nil (b : List UInt8) : bl [] b = decide (0 < b.length) := by cases b <;> simp [bl,Op.bytesLess]
theorem bl_nilr (a : List UInt8) : bl a [] = false := by cases a <;> simp [bl,Op.bytesLess]
theorem bl_cons (x y : UInt8) (a b : List UInt8) : bl (x :: a) (y :: b) = if x < y then true else if y < x then false else bl a b := by
  show (decide (x < y) || (x == y && Op.bytesLess a b)) = _
  by_cases h : x < y
  · simp [h]
  · by_cases h' : y < x
    · have e : ¬ x = y := fun e => by subst e; exact h h'
      simp [h,h',e]
    · have e : x = y := by
        apply UInt8.toNat_inj.1; rw [UInt8.lt_iff_toNat_lt] at h h'; omega
      simp [e,bl]
theorem bl_irr : ∀ a : List UInt8,bl a a = false
  | [] => bl_nilr []
  | x :: a => by rw [bl_cons,if_neg (by rw [UInt8.lt_iff_toNat_lt]; omega),if_neg (by rw [UInt8.lt_iff_toNat_lt]; omega)]; exact bl_irr a
theorem bl_tot : ∀ a b : List UInt8,(bl a b || decide (a = b)) = !bl b a
  | [],[] => by rw [bl_nilr]; rfl
  | [],y :: b => by rw [bl_nil,bl_nilr]; rfl
  | x :: a,[] => by rw [bl_nilr,bl_nil]; rfl
  | x :: a,y :: b => by
    rw [bl_cons,bl_cons]
    have ih := bl_tot a b
    by_cases h : x < y
    · have h' : ¬ y < x := by rw [UInt8.lt_iff_toNat_lt] at h ⊢; omega
      rw [if_pos h,if_neg h',if_pos h]; rfl
    · by_cases h' : y < x
      · rw [if_neg h,if_pos h',if_pos h']
        have : ¬ (x :: a = y :: b) := fun e => by injection e with e _; subst e; exact h h'
        rw [decide_eq_false this]; rfl
      · have e : x = y := by
          apply UInt8.toNat_inj.1; rw [UInt8.lt_iff_toNat_lt] at h h'; omega
        subst e
        rw [if_neg h,if_neg h,if_neg h,if_neg h,← ih]
        congr 1; simp
theorem bl_trans : ∀ {a b c : List UInt8},bl a b = true → bl b c = true → bl a c = true
  | a,b,[],h1,h2 => by rw [bl_nilr] at h2; cases h2
  | a,[],c,h1,h2 => by rw [bl_nilr] at h1; cases h1
  | [],y :: b,z :: c,h1,h2 => by rw [bl_nil]; rfl
  | x :: a,y :: b,z :: c,h1,h2 => by
    rw [bl_cons] at h1 h2 ⊢
    simp only [UInt8.lt_iff_toNat_lt] at h1 h2 ⊢
    by_cases hxy : x.toNat < y.toNat
    · by_cases hyz : y.toNat < z.toNat
      · rw [if_pos (by omega)]
      · rw [if_neg hyz] at h2
        by_cases hzy : z.toNat < y.toNat
        · rw [if_pos hzy] at h2; cases h2
        · rw [if_pos (by omega)]
    · rw [if_neg hxy] at h1
      by_cases hyx : y.toNat < x.toNat
      · rw [if_pos hyx] at h1; cases h1
      · rw [if_neg hyx] at h1
        by_cases hyz : y.toNat < z.toNat
        · rw [if_pos (by omega)]
        · rw [if_neg hyz] at h2
          by_cases hzy : z.toNat < y.toNat
          · rw [if_pos hzy] at h2; cases h2
          · rw [if_neg hzy] at h2
            rw [if_neg (by omega),if_neg (by omega)]
            exact bl_trans h1 h2
theorem bl_lt_le {a b c : List UInt8} (h1 : bl a b = true) (h2 : bl c b = false) : bl a c = true := by
  have := bl_tot b c
  rw [h2] at this
  by_cases e : b = c
  · rw [← e]; exact h1
  · rw [decide_eq_false e,Bool.or_false] at this; exact bl_trans h1 this
def cmpB (a b : List UInt8) : Int := if bl a b then -1 else if a = b then 0 else 1
section
variable {P : Program} {t : TypeId}
theorem s_leq (x y : List UInt8) : binPlan P .leq t (.val (str x)) (.val (str y)) = some (vp (.val (.bool (!bl y x)))) := by
  simp only [str,bin_str,sbin,toList_mk,Option.map_some]
  rw [← bl_tot x y]
  congr 5
  by_cases h : x = y <;> simp [h]
theorem s_geq (x y : List UInt8) : binPlan P .geq t (.val (str x)) (.val (str y)) = some (vp (.val (.bool (!bl x y)))) := by
  simp only [str,bin_str,sbin,toList_mk,Option.map_some]; rfl
theorem s_lss' (x y : List UInt8) : binPlan P .lss t (.val (str x)) (.val (str y)) = some (vp (.val (.bool (bl x y)))) := s_lss P t x y
end
attribute [go_sem] s_leq s_geq
attribute [go_sem high] s_lss'
def ofT (tag : Int) (parts : List (List UInt8)) : List UInt8 := (sha (inp tag parts)).take 16
theorem ofT_len (tag : Int) (parts : List (List UInt8)) : (ofT tag parts).length = 16 := by unfold ofT; rw [List.length_take,sha_len]; rfl
theorem inp_len2 (tag : Int) (a b : List UInt8) (ha : a.length < 1000000) (hb : b.length < 1000000) : (inp tag [a,b]).length < 1099511627776 := by
  have h1 := wb_len a (by omega)
  have h2 := wb_len b (by omega)
  unfold inp
  simp only [List.flatMap_cons,List.flatMap_nil,List.append_nil,List.length_cons,List.length_append]; omega
theorem inp_len1 (tag : Int) (a : List UInt8) (ha : a.length < 1000000) : (inp tag [a]).length < 1099511627776 := by
  have h1 := wb_len a (by omega)
  unfold inp
  simp only [List.flatMap_cons,List.flatMap_nil,List.append_nil,List.length_cons]; omega
def nodT (a b : List UInt8) : List UInt8 := ofT 4 [a,b]
theorem nodT_len (a b : List UInt8) : (nodT a b).length = 16 := ofT_len _ _
def lefT (x : Leaf) : List UInt8 := ofT 3 [x.1,x.2]
theorem lefT_len (x : Leaf) : (lefT x).length = 16 := ofT_len _ _
def rotT (n : Nat) (d : List UInt8) : List UInt8 := if n = 0 then ofT 4 [wint ((0 : Nat) : Int)] else ofT 4 [wint ((n : Nat) : Int),d]
theorem rotT_len (n : Nat) (d : List UInt8) : (rotT n d).length = 16 := by unfold rotT; split <;> exact ofT_len _ _
def hlf (n : Nat) : Nat → Nat → Nat
  | 0,m => m
  | f + 1,m => if 2 * m < n then hlf n f (2 * m) else m
def halfT (n : Nat) : Nat := hlf n n 1
theorem hlf_st (n : Nat) : ∀ (f g m : Nat),0 < m → n - m ≤ f → n - m ≤ g → hlf n f m = hlf n g m
  | 0,0,m,_,_,_ => rfl
  | 0,g + 1,m,h0,h1,h2 => by unfold hlf; rw [if_neg (by omega)]
  | f + 1,0,m,h0,h1,h2 => by unfold hlf; rw [if_neg (by omega)]
  | f + 1,g + 1,m,h0,h1,h2 => by
    unfold hlf
    split
    · exact hlf_st n f g (2 * m) (by omega) (by omega) (by omega)
    · rfl
theorem hlf_T {n m : Nat} (h : 2 * m < n) (h0 : 0 < m) : hlf n n m = hlf n n (2 * m) := by
  obtain ⟨k,rfl⟩ : ∃ k,n = k + 1 := ⟨n - 1,by omega⟩
  show (if 2 * m < k + 1 then hlf (k + 1) k (2 * m) else m) = _
  rw [if_pos h]
  exact hlf_st _ _ _ _ (by omega) (by omega) (by omega)
theorem hlf_F {n m : Nat} (h : ¬ 2 * m < n) : hlf n n m = m := by
  cases n with
  | zero => rfl
  | succ k => show (if 2 * m < k + 1 then hlf (k + 1) k (2 * m) else m) = _; rw [if_neg h]
theorem hlf_lt (n : Nat) : ∀ f m,0 < m → m < n → 0 < hlf n f m ∧ hlf n f m < n
  | 0,m,h1,h2 => ⟨h1,h2⟩
  | f + 1,m,h1,h2 => by
    unfold hlf; split
    · exact hlf_lt n f (2 * m) (by omega) (by omega)
    · exact ⟨h1,h2⟩
theorem half_lt {n : Nat} (h : 1 < n) : 0 < halfT n ∧ halfT n < n := hlf_lt n n 1 (by omega) h
def rowD (l : List Leaf) : Nat → Nat → Nat → List UInt8
  | 0,a,_ => lefT (gt l a)
  | d + 1,a,b => if b - a ≤ 1 then lefT (gt l a) else nodT (rowD l d a (a + halfT (b - a))) (rowD l d (a + halfT (b - a)) b)
theorem rowD_len (l : List Leaf) : ∀ d a b,(rowD l d a b).length = 16
  | 0,a,b => lefT_len _
  | d + 1,a,b => by unfold rowD; split; exact lefT_len _; exact nodT_len _ _
theorem hlf_pow (n : Nat) : ∀ f k,2 ^ k < n → n - 2 ^ k ≤ f → ∃ j,hlf n f (2 ^ k) = 2 ^ j ∧ 2 ^ j < n ∧ n ≤ 2 * 2 ^ j
  | 0,k,h1,h2 => ⟨k,rfl,h1,by omega⟩
  | f + 1,k,h1,h2 => by
    unfold hlf
    have h3 := Nat.two_pow_pos k
    split
    · rename_i h
      have e : 2 * 2 ^ k = 2 ^ (k + 1) := by rw [Nat.pow_succ]; omega
      rw [e] at h ⊢
      exact hlf_pow n f (k + 1) h (by omega)
    · exact ⟨k,rfl,h1,by omega⟩
theorem half_le {n d : Nat} (h1 : 1 < n) (h : n ≤ 2 ^ (d + 1)) : halfT n ≤ 2 ^ d ∧ n - halfT n ≤ 2 ^ d := by
  obtain ⟨j,e,h2,h3⟩ := hlf_pow n n 0 (by omega) (by omega)
  have e' : halfT n = 2 ^ j := e
  rw [e']
  have hj : j < d + 1 := (Nat.pow_lt_pow_iff_right (by omega : 1 < 2)).1 (Nat.lt_of_lt_of_le h2 h)
  have : 2 ^ j ≤ 2 ^ d := Nat.pow_le_pow_right (by omega) (by omega)
  omega
theorem rowD_st (l : List Leaf) : ∀ (d e a b : Nat),b - a ≤ 2 ^ d → b - a ≤ 2 ^ e → rowD l d a b = rowD l e a b
  | 0,0,a,b,_,_ => rfl
  | 0,e + 1,a,b,h1,h2 => by
    have : b - a ≤ 1 := h1
    unfold rowD; rw [if_pos this]
  | d + 1,0,a,b,h1,h2 => by
    have : b - a ≤ 1 := h2
    unfold rowD; rw [if_pos this]
  | d + 1,e + 1,a,b,h1,h2 => by
    unfold rowD
    split
    · rfl
    · rename_i h
      have hh := half_lt (n := b - a) (by omega)
      have g1 := half_le (by omega) h1
      have g2 := half_le (by omega) h2
      rw [rowD_st l d e a (a + halfT (b - a)) (by omega) (by omega),rowD_st l d e (a + halfT (b - a)) b (by omega) (by omega)]
def digT (l : List Leaf) : List UInt8 := rowD l 12 0 l.length
theorem digT_len (l : List Leaf) : (digT l).length = 16 := rowD_len _ _ _ _
def bigE (x : Leaf) : Bool := decide (65536 < x.1.length) || decide (65536 < x.2.length)
def incT (l : List Leaf) : Nat → Bool
  | 0 => true
  | i + 1 => incT l i && (decide (i = 0) || bl (gt l (i - 1)).1 (gt l i).1)
def valT (l : List Leaf) : Nat := if 4096 < l.length ∨ l.any bigE = true then 4 else if incT l l.length = true then 0 else 1
end Go.Sx
namespace Go.Sx
open Go.RowKit Go.Proofs
set_option maxRecDepth 100000
set_option maxHeartbeats 8000000
theorem rep2s (x y : List UInt8) : ((List.replicate 2 []).set 0 x).set 1 y = [x,y] := rfl
theorem t16 {a : List UInt8} (h : a.length = 16) : a.take 16 = a := List.take_of_length_le (by omega)
theorem int_nI' (n : Nat) : C.val (.int .i64 ((n : Nat) : Int)) = C.val (nI n) := rfl
theorem X_fc81 {p : Prop} (e : p := by intro KZ hZ; simp -implicitDefEqProofs (disch := first | omega | (simp only [go_sem,lA,lD,lT] <;> omega) | decide) only [go_sem,↓reduceIte,Nat.reduceEqDiff,reduceCtorEq,Nat.reduceLT,Nat.reduceBEq,Nat.reduceAdd,hy]; with_reducible exact hZ) : p := e
theorem F_fc81 {p : Prop} (e : p := by simp -implicitDefEqProofs (disch := first | omega | (simp only [go_sem,lA,lD,lT] <;> omega) | decide) only [go_sem,↓reduceIte,Nat.reduceEqDiff,reduceCtorEq]; all_goals (rw [← hm.2.2,hlf_F (by omega)])) : p := e
theorem fc81 {gl : Nat → C} {M : Nat} {pu : Nat → List C → Option C} (hcx : CxOK (cxP gl M pu)) (x y : Nat) (hab : x ≤ y ∧ y ≤ 4611686018427387000) : FC Tryd.prog gl 81 [.val (nI x),.val (nI y)] [] (.val (nI (x + halfT (y - x)))) [] := by
 replace hcx := hcx.reN (M := 17)
 refine FC.ofA (cx := cxP gl 17 pu) (rs := [.tmp 4]) rfl Tryd.func81 rfl rfl rfl (by simp only [List.length_cons,List.length_nil]; decide) (by simp only [go_sem]) ?_
 simp only [ini,go_sem]
 have hy := True.intro
 refine Tr.w hcx [] _ [] rfl rfl rfl ?_ X_fc81
 refine Tr.w hcx [] _ [] rfl rfl rfl ?_ X_fc81
 refine Tr.k [0,1,5] ?_
 refine Tr.seqK fun K1 hK1 => ?_
 refine Tr.blk ?_
 refine Tr.loopI (α := Nat) (fun a => [(0,?v0_1),(1,?v1_1),(5,.val (nI a))]) (fun a => ?h_1) (fun a => 0 < a ∧ a ≤ (y - x) + 1 ∧ hlf (y - x) (y - x) a = halfT (y - x)) (fun a => (y - x) - a) (1) ⟨by omega,by omega,rfl⟩ ?le_1 ?hh_1 ?bd_1
 case hh_1 => exact rfl
 case le_1 => exact LT
 rintro m hm
 refine Tr.seqK fun K2 hK2 => ?_
 refine Tr.w hcx [] _ [] rfl rfl rfl ?_ X_fc81
 refine Tr.cD rfl (fun hc11 => ?_) (fun hc11 => ?_)
 ·
  refine Tr.skip ?_
  refine hK2 _ ?_
  refine Tr.blk ?_
  refine Tr.v hcx [1000013] _ [] rfl rfl rfl ?_ X_fc81
  exact ⟨m * 2,⟨⟨by omega,by omega,by rw [← hm.2.2,hlf_T (by omega) hm.1,Nat.mul_comm]⟩,O1⟩,LT,rfl⟩
 refine Tr.exit ?_
 refine hK1 _ ?_
 refine Tr.w hcx [1000016] _ [] rfl rfl rfl ?_ X_fc81
 exact Tr.ret F_fc81
theorem X_fc106 {p : Prop} (e : p := by intro KZ hZ; simp -implicitDefEqProofs (disch := first | omega | (simp only [go_sem,lA,lD,lT] <;> omega) | decide) only [go_sem,↓reduceIte,Nat.reduceEqDiff,reduceCtorEq,Nat.reduceLT,Nat.reduceBEq,Nat.reduceAdd,hy]; with_reducible exact hZ) : p := e
theorem F_fc106 {p : Prop} (e : p := by simp -implicitDefEqProofs (disch := first | omega | (simp only [go_sem,lA,lD,lT] <;> omega) | decide) only [go_sem,↓reduceIte,Nat.reduceEqDiff,reduceCtorEq]; all_goals (rw [← hm.2.2,hlf_F (by omega)])) : p := e
theorem fc106 {gl : Nat → C} {M : Nat} {pu : Nat → List C → Option C} (hcx : CxOK (cxP gl M pu)) (n : Nat) (hn : n ≤ 4611686018427387000) : FC Tryd.prog gl 106 [.val (nI n)] [] (.val (nI (halfT n))) [] := by
 replace hcx := hcx.reN (M := 11)
 refine FC.ofA (cx := cxP gl 11 pu) (rs := [.tmp 2]) rfl Tryd.func106 rfl rfl rfl (by simp only [List.length_cons,List.length_nil]; decide) (by simp only [go_sem]) ?_
 simp only [ini,go_sem]
 have hy := True.intro
 refine Tr.w hcx [] _ [] rfl rfl rfl ?_ X_fc106
 refine Tr.w hcx [] _ [] rfl rfl rfl ?_ X_fc106
 refine Tr.k [0,3] ?_
 refine Tr.seqK fun K1 hK1 => ?_
 refine Tr.blk ?_
 refine Tr.loopI (α := Nat) (fun a => [(0,?v0_1),(3,.val (nI a))]) (fun a => ?h_1) (fun a => 0 < a ∧ a ≤ n + 1 ∧ hlf n n a = halfT n) (fun a => n - a) (1) ⟨by omega,by omega,rfl⟩ ?le_1 ?hh_1 ?bd_1
 case hh_1 => exact rfl
 case le_1 => exact LT
 rintro m hm
 refine Tr.seqK fun K2 hK2 => ?_
 refine Tr.w hcx [] _ [] rfl rfl rfl ?_ X_fc106
 refine Tr.cD rfl (fun hc7 => ?_) (fun hc7 => ?_)
 ·
  refine Tr.skip ?_
  refine hK2 _ ?_
  refine Tr.blk ?_
  refine Tr.v hcx [1000009] _ [] rfl rfl rfl ?_ X_fc106
  exact ⟨2 * m,⟨⟨by omega,by omega,by rw [← hm.2.2,hlf_T (by omega) hm.1]⟩,O1⟩,LT,rfl⟩
 refine Tr.exit ?_
 refine hK1 _ ?_
 refine Tr.w hcx [1000010] _ [] rfl rfl rfl ?_ X_fc106
 exact Tr.ret F_fc106
theorem X_fc80 {p : Prop} (e : p := by intro KZ hZ; simp -implicitDefEqProofs (disch := first | omega | (simp only [go_sem,lA,lD,lT,lefT_len] <;> omega) | decide) only [go_sem,↓reduceIte,Nat.reduceEqDiff,reduceCtorEq,Nat.reduceLT,Nat.reduceBEq,Nat.reduceAdd,rep2s,e,hy]; with_reducible exact hZ) : p := e
theorem F_fc80 {p : Prop} (e : p := by simp -implicitDefEqProofs (disch := first | omega | (simp only [go_sem,lA,lD,lT,lefT_len] <;> omega) | decide) only [go_sem,↓reduceIte,Nat.reduceEqDiff,reduceCtorEq]; all_goals (rfl)) : p := e
theorem fc80 {gl : Nat → C} {M : Nat} {pu : Nat → List C → Option C} (hcx : CxOK (cxP gl M pu)) (h78 : ∀ (tag : Int) (parts : List (List UInt8)),(inp tag parts).length < 1099511627776 → pu 78 [.val (.int .i64 tag),sl sC .no parts] = some (.agg (cl bC (ofT tag parts)))) (x : Leaf) (hx : x.1.length ≤ 65536 ∧ x.2.length ≤ 65536) : FC Tryd.prog gl 80 [.agg (eC x)] [] (.agg (cl bC (lefT x))) [] := by
 replace hcx := hcx.reN (M := 9)
 refine FC.ofA (cx := cxP gl 9 pu) (rs := [.cell 2 29]) rfl Tryd.func80 rfl rfl rfl (by simp only [List.length_cons,List.length_nil]; decide) (by simp only [go_sem]) ?_
 simp only [ini,go_sem]
 have hy := True.intro
 have e : pu 78 [.val (nI 3),sl sC .no [x.1,x.2]] = some (.agg (cl bC (lefT x))) := h78 3 [x.1,x.2] (inp_len2 3 _ _ (by omega) (by omega))
 refine Tr.w hcx [] _ [none,none] rfl rfl rfl ?_ X_fc80
 refine Tr.w hcx [] _ [] rfl rfl rfl ?_ X_fc80
 exact Tr.ret F_fc80
theorem X_fc82 {p : Prop} (e : p := by intro KZ hZ; simp -implicitDefEqProofs (disch := first | omega | (simp only [go_sem,lA,lD,lT,ha,hb,nodT_len] <;> omega) | decide) only [go_sem,↓reduceIte,Nat.reduceEqDiff,reduceCtorEq,Nat.reduceLT,Nat.reduceBEq,Nat.reduceAdd,rep2s,ta,tb,e,hy]; with_reducible exact hZ) : p := e
theorem Y_fc82 {p : Prop} (e : p := by intro KZ hZ; simp -implicitDefEqProofs (disch := first | omega | (simp only [go_sem,lA,lD,lT,ha,hb,nodT_len] <;> omega) | decide) only [go_sem,↓reduceIte,Nat.reduceEqDiff,reduceCtorEq,Nat.reduceLT,Nat.reduceBEq,Nat.reduceAdd,rep2s,ta,tb,e,hy]; refine And.intro ?_ hZ; exact rfl) : p := e
theorem F_fc82 {p : Prop} (e : p := by simp -implicitDefEqProofs (disch := first | omega | (simp only [go_sem,lA,lD,lT,ha,hb,nodT_len] <;> omega) | decide) only [go_sem,↓reduceIte,Nat.reduceEqDiff,reduceCtorEq]; all_goals (rfl)) : p := e
theorem fc82 {gl : Nat → C} {M : Nat} {pu : Nat → List C → Option C} (hcx : CxOK (cxP gl M pu)) (h78 : ∀ (tag : Int) (parts : List (List UInt8)),(inp tag parts).length < 1099511627776 → pu 78 [.val (.int .i64 tag),sl sC .no parts] = some (.agg (cl bC (ofT tag parts)))) (a b : List UInt8) (ha : a.length = 16) (hb : b.length = 16) : FC Tryd.prog gl 82 [.agg (cl bC a),.agg (cl bC b)] [] (.agg (cl bC (nodT a b))) [] := by
 replace hcx := hcx.reN (M := 11)
 refine FC.ofA (cx := cxP gl 11 pu) (rs := [.cell 4 29]) rfl Tryd.func82 rfl rfl rfl (by simp only [List.length_cons,List.length_nil]; decide) (by simp only [go_sem]) ?_
 simp only [ini,go_sem]
 have hy := True.intro
 have hin := inp_len2 4 a b (by omega) (by omega)
 have e : pu 78 [.val (nI 4),sl sC .no [a,b]] = some (.agg (cl bC (nodT a b))) := h78 4 [a,b] hin
 have ta := t16 ha
 have tb := t16 hb
 refine Tr.w hcx [] _ [none,none,none] rfl rfl rfl ?_ X_fc82
 refine Tr.wD hcx hMO [] _ [] rfl rfl rfl rfl ?_ Y_fc82
 exact Tr.ret F_fc82
theorem X_fc54 {p : Prop} (e : p := by intro KZ hZ; simp -implicitDefEqProofs (disch := first | omega | (simp only [go_sem,lA,lD,lT] <;> omega) | decide) only [go_sem,↓reduceIte,Nat.reduceEqDiff,reduceCtorEq,Nat.reduceLT,Nat.reduceBEq,Nat.reduceAdd,b1,hy]; with_reducible exact hZ) : p := e
theorem F_fc54 {p : Prop} (e : p := by simp -implicitDefEqProofs (disch := first | omega | (simp only [go_sem,lA,lD,lT] <;> omega) | decide) only [go_sem,↓reduceIte,Nat.reduceEqDiff,reduceCtorEq]; all_goals (simp [bigE,b1])) : p := e
theorem fc54 {gl : Nat → C} {M : Nat} {pu : Nat → List C → Option C} (hcx : CxOK (cxP gl M pu)) (x : Leaf) (hx : x.1.length < 9223372036854775808 ∧ x.2.length < 9223372036854775808) : FC Tryd.prog gl 54 [.agg (eC x)] [] (.val (.bool (bigE x))) [] := by
 replace hcx := hcx.reN (M := 13)
 refine FC.ofA (cx := cxP gl 13 pu) (rs := [.tmp 2]) rfl Tryd.func54 rfl rfl rfl (by simp only [List.length_cons,List.length_nil]; decide) (by simp only [go_sem]) ?_
 simp only [ini,go_sem]
 have b1 := True.intro
 have hy := True.intro
 refine Tr.w hcx [] _ [none] rfl rfl rfl ?_ X_fc54
 by_cases b1 : 65536 < x.1.length
 ·
  refine Tr.w hcx [1000012] [some 3,some 4,some 5,some 6,some 7,some 8,some 9,some 10,some 11,some 12,some 2] [] rfl rfl rfl ?_ X_fc54
  exact Tr.ret F_fc54
 refine Tr.w hcx [1000012] [some 3,some 4,some 5,some 6,some 7,some 8,some 9,some 10,some 11,some 12,some 2] [] rfl rfl rfl ?_ X_fc54
 exact Tr.ret F_fc54
theorem X_fc50 {p : Prop} (e : p := by intro KZ hZ; simp -implicitDefEqProofs (disch := first | omega | (simp only [go_sem,lA,lD,lT,hwl,rotT_len,hd,ofT_len,hw0] <;> omega) | decide) only [go_sem,↓reduceIte,Nat.reduceEqDiff,reduceCtorEq,Nat.reduceLT,Nat.reduceBEq,Nat.reduceAdd,rep2s,e0,e1,w0,w1,td,hy]; with_reducible exact hZ) : p := e
theorem Y_fc50 {p : Prop} (e : p := by intro KZ hZ; simp -implicitDefEqProofs (disch := first | omega | (simp only [go_sem,lA,lD,lT,hwl,rotT_len,hd,ofT_len,hw0] <;> omega) | decide) only [go_sem,↓reduceIte,Nat.reduceEqDiff,reduceCtorEq,Nat.reduceLT,Nat.reduceBEq,Nat.reduceAdd,rep2s,e0,e1,w0,w1,td,hy]; refine And.intro ?_ hZ; exact rfl) : p := e
theorem F_fc50 {p : Prop} (e : p := by simp -implicitDefEqProofs (disch := first | omega | (simp only [go_sem,lA,lD,lT,hwl,rotT_len,hd,ofT_len,hw0] <;> omega) | decide) only [go_sem,↓reduceIte,Nat.reduceEqDiff,reduceCtorEq]; all_goals (first | (rw [rotT,if_pos hc6]; done) | (rw [rotT,if_neg hc6]; done))) : p := e
theorem fc50 {gl : Nat → C} {M : Nat} {pu : Nat → List C → Option C} (hcx : CxOK (cxP gl M pu)) (h78 : ∀ (tag : Int) (parts : List (List UInt8)),(inp tag parts).length < 1099511627776 → pu 78 [.val (.int .i64 tag),sl sC .no parts] = some (.agg (cl bC (ofT tag parts)))) (h39 : ∀ n : Int,-9223372036854775808 ≤ n ∧ n ≤ 9223372036854775807 → pu 39 [.val (.int .i64 n)] = some (sl bC (.own 1) (wint n))) (n : Nat) (d : List UInt8) (hn : n ≤ 4096) (hd : d.length = 16) : FC Tryd.prog gl 50 [.val (nI n),.agg (cl bC d)] [] (.agg (cl bC (rotT n d))) [] := by
 replace hcx := hcx.reN (M := 18)
 refine FC.ofA (cx := cxP gl 18 pu) (rs := [.cell 4 29]) rfl Tryd.func50 rfl rfl rfl (by simp only [List.length_cons,List.length_nil]; decide) (by simp only [go_sem]) ?_
 simp only [ini,go_sem]
 have hy := True.intro
 have w0 : pu 39 [.val (nI 0)] = some (sl bC (.own 1) (wint ((0 : Nat) : Int))) := h39 ((0 : Nat) : Int) (by omega)
 have w1 : pu 39 [.val (nI n)] = some (sl bC (.own 1) (wint ((n : Nat) : Int))) := h39 ((n : Nat) : Int) (by omega)
 have hwl := wintn_len n (by omega)
 have hw0 := wintn_len 0 (by omega)
 have e0 : pu 78 [.val (nI 4),sl sC .no [wint ((0 : Nat) : Int)]] = some (.agg (cl bC (ofT 4 [wint ((0 : Nat) : Int)]))) := h78 4 _ (inp_len1 4 _ (by omega))
 have e1 : pu 78 [.val (nI 4),sl sC .no [wint ((n : Nat) : Int),d]] = some (.agg (cl bC (ofT 4 [wint ((n : Nat) : Int),d]))) := h78 4 _ (inp_len2 4 _ _ (by omega) (by omega))
 have td := t16 hd
 refine Tr.w hcx [] _ [none,none] rfl rfl rfl ?_ X_fc50
 refine Tr.seqK fun K1 hK1 => ?_
 refine Tr.w hcx [] _ [] rfl rfl rfl ?_ X_fc50
 refine Tr.cD rfl (fun hc6 => ?_) (fun hc6 => ?_)
 ·
  refine Tr.w hcx [] _ [] rfl rfl rfl ?_ X_fc50
  exact Tr.ret F_fc50
 refine Tr.skip ?_
 refine hK1 _ ?_
 refine Tr.wD hcx hMO [] _ [] rfl rfl rfl rfl ?_ Y_fc50
 exact Tr.ret F_fc50
end Go.Sx
namespace Go.Sx
open Go.RowKit Go.Proofs
set_option maxRecDepth 100000
set_option maxHeartbeats 8000000
theorem any_snoc (l : List Leaf) (i : Nat) (h : i < l.length) : (l.take (i + 1)).any bigE = ((l.take i).any bigE || bigE (gt l i)) := by
  rw [take_snoc l i h,List.any_append]; simp
theorem any_at {l : List Leaf} {i : Nat} (h : i < l.length) (hb : bigE (gt l i) = true) : l.any bigE = true := by
  rw [List.any_eq_true]; exact ⟨_,gt_mem l i h,hb⟩
theorem valT_4 {l : List Leaf} (h : 4096 < l.length ∨ l.any bigE = true) : valT l = 4 := if_pos h
theorem valT_0 {l : List Leaf} (h : ¬ (4096 < l.length ∨ l.any bigE = true)) (h2 : incT l l.length = true) : valT l = 0 := by unfold valT; rw [if_neg h,if_pos h2]
theorem valT_1 {l : List Leaf} (h : ¬ (4096 < l.length ∨ l.any bigE = true)) (h2 : ¬ incT l l.length = true) : valT l = 1 := by unfold valT; rw [if_neg h,if_neg h2]
theorem incT_no {l : List Leaf} {i : Nat} (hi : 0 < i) (h2 : bl (gt l (i - 1)).1 (gt l i).1 = false) : ∀ n,i < n → incT l n = false
  | 0,h => by omega
  | n + 1,h => by
    by_cases e : i = n
    · subst e; unfold incT; rw [h2,decide_eq_false (by omega)]; simp
    · unfold incT; rw [incT_no hi h2 n (by omega)]; rfl
theorem incT_S {l : List Leaf} {i : Nat} (h : incT l i = true) (h2 : i = 0 ∨ bl (gt l (i - 1)).1 (gt l i).1 = true) : incT l (i + 1) = true := by
  unfold incT; rw [h]
  rcases h2 with h2 | h2
  · rw [decide_eq_true h2]; rfl
  · rw [h2]; simp
theorem bigE_l {x : Leaf} (h : 65536 < x.1.length) : bigE x = true := by simp [bigE,h]
theorem bigE_r {x : Leaf} (h : 65536 < x.2.length) : bigE x = true := by simp [bigE,h]
theorem incT_nn {l : List Leaf} {i n : Nat} (hi : 0 < i) (h2 : bl (gt l (i - 1)).1 (gt l i).1 = false) (h : i < n) : ¬ incT l n = true := by rw [incT_no hi h2 n h]; simp
theorem incT_end {l : List Leaf} {i : Nat} (h1 : ¬ i < l.length) (h2 : i ≤ l.length ∨ i = 1) (h : i ≤ l.length → incT l i = true) : incT l l.length = true := by
  by_cases e : l.length = 0
  · rw [e]; rfl
  · have e : i = l.length := by omega
    rw [← e]; exact h (by omega)
def LB (l : List Leaf) : Prop := l.length < 4611686018427387000 ∧ ∀ i,i < l.length → (gt l i).1.length < 9223372036854775808 ∧ (gt l i).2.length < 9223372036854775808
def idxT (l : List Leaf) : Int := (((l.findIdx? bigE).map fun n => ((n : Nat) : Int)).getD (-1))
theorem idxT_T {l : List Leaf} {i : Nat} (h : i < l.length) (h0 : (l.take i).any bigE = false) (hb : bigE (gt l i) = true) : idxT l = ((i : Nat) : Int) := by
  have e : gt l i = l[i] := by simp [gt,List.getD,List.getElem?_eq_getElem h]
  have : l.findIdx? bigE = some i := by
    rw [List.findIdx?_eq_some_iff_getElem]
    refine ⟨h,by rw [← e]; exact hb,fun j hj => ?_⟩
    rw [List.any_eq_false] at h0
    have := h0 l[j] (by rw [List.mem_take_iff_getElem]; exact ⟨j,by omega,rfl⟩)
    simpa using this
  unfold idxT; rw [this]; rfl
theorem idxT_F {l : List Leaf} (h0 : l.any bigE = false) : idxT l = -1 := by
  have : l.findIdx? bigE = none := by
    rw [List.findIdx?_eq_none_iff]; rw [List.any_eq_false] at h0; intro x hx; simpa using h0 x hx
  unfold idxT; rw [this]; rfl
theorem idxT_ge (l : List Leaf) : (0 ≤ idxT l) = (l.any bigE = true) := by
  unfold idxT
  cases h : l.findIdx? bigE with
  | none =>
    rw [List.findIdx?_eq_none_iff] at h
    have : l.any bigE = false := by rw [List.any_eq_false]; intro x hx; simp [h x hx]
    simp [this]
  | some n =>
    rw [List.findIdx?_eq_some_iff_getElem] at h
    obtain ⟨h1,h2,_⟩ := h
    have : l.any bigE = true := by rw [List.any_eq_true]; exact ⟨_,List.getElem_mem h1,h2⟩
    simp [this]
theorem idxT_any (l : List Leaf) : decide ((0 : Int) ≤ idxT l) = l.any bigE := by rw [Bool.eq_iff_iff,decide_eq_true_eq,idxT_ge]
theorem X_fc87 {p : Prop} (e : p := by intro KZ hZ; simp -implicitDefEqProofs (disch := first | omega | (simp only [go_sem,lA,lD,lT] <;> omega) | decide) only [go_sem,↓reduceIte,Nat.reduceEqDiff,reduceCtorEq,Nat.reduceLT,Nat.reduceBEq,Nat.reduceAdd,b1,hy]; with_reducible exact hZ) : p := e
theorem F_fc87 {p : Prop} (e : p := by simp -implicitDefEqProofs (disch := first | omega | (simp only [go_sem,lA,lD,lT] <;> omega) | decide) only [go_sem,↓reduceIte,Nat.reduceEqDiff,reduceCtorEq]; all_goals (first | (rw [idxT_T hc9 hi.2 b1] <;> rfl) | (rw [hiF] <;> rfl))) : p := e
theorem fc87 {gl : Nat → C} {M : Nat} {pu : Nat → List C → Option C} (hcx : CxOK (cxP gl M pu)) (h54 : ∀ x : Leaf,x.1.length < 9223372036854775808 ∧ x.2.length < 9223372036854775808 → pu 54 [.agg (eC x)] = some (.val (.bool (bigE x)))) (l : List Leaf) (hl : LB l) : FC Tryd.prog gl 87 [sl eC .no l,.fn 54 []] [] (.val (.int .i64 (idxT l))) [] := by
 replace hcx := hcx.reN (M := 19)
 refine FC.ofA (cx := cxP gl 19 pu) (rs := [.tmp 4]) rfl Tryd.func87 rfl rfl rfl (by simp only [List.length_cons,List.length_nil]; decide) (by simp only [go_sem]) ?_
 simp only [ini,go_sem]
 have b1 := True.intro
 have hy := True.intro
 have hl1 := hl.1
 refine Tr.w hcx [] _ [] rfl rfl rfl ?_ X_fc87
 refine Tr.seqK fun K1 hK1 => ?_
 refine Tr.w hcx [] _ [] rfl rfl rfl ?_ X_fc87
 refine Tr.k [0,1,7,8] ?_
 refine Tr.blk ?_
 refine Tr.loopI (α := Nat) (fun a => [(0,?v0_1),(1,?v1_1),(7,?v7_1),(8,.val (nI a))]) (fun a => ?h_1) (fun a => a ≤ l.length ∧ (l.take a).any bigE = false) (fun a => l.length - a) (0) ⟨Nat.zero_le _,by rw [List.take_zero]; rfl⟩ ?le_1 ?hh_1 ?bd_1
 case hh_1 => exact rfl
 case le_1 => exact LT
 rintro i hi
 refine Tr.w hcx [] _ [] rfl rfl rfl ?_ X_fc87
 refine Tr.seqK fun K2 hK2 => ?_
 refine Tr.cD rfl (fun hc9 => ?_) (fun hc9 => ?_)
 ·
  have e54 := h54 (gt l i) (hl.2 i hc9)
  refine Tr.skip ?_
  refine hK2 _ ?_
  refine Tr.seqK fun K3 hK3 => ?_
  refine Tr.blk ?_
  refine Tr.w hcx [1000010] _ [] rfl rfl rfl ?_ X_fc87
  by_cases b1 : bigE (gt l i) = true
  ·
   have e54b := b1
   have hy := @e54
   refine Tr.w hcx [] _ [] rfl rfl rfl ?_ X_fc87
   refine Tr.cT rfl ?_
   have hy := True.intro
   refine Tr.w hcx [1000017] _ [] rfl rfl rfl ?_ X_fc87
   exact Tr.ret F_fc87
  have e54b := Bool.eq_false_iff.2 b1
  have hy := @e54
  refine Tr.w hcx [] _ [] rfl rfl rfl ?_ X_fc87
  refine Tr.cF rfl ?_
  refine Tr.skip ?_
  refine hK3 _ ?_
  have hy := True.intro
  refine Tr.v hcx [] _ [] rfl rfl rfl ?_ X_fc87
  exact ⟨i + 1,⟨⟨by omega,by rw [any_snoc l i hc9,hi.2,e54b]; rfl⟩,O1⟩,LT,rfl⟩
 have hiF := idxT_F (l := l) (by rw [← List.take_of_length_le (show l.length ≤ i by omega)]; exact hi.2)
 refine Tr.exit ?_
 refine hK1 _ ?_
 refine Tr.w hcx [] _ [] rfl rfl rfl ?_ X_fc87
 exact Tr.ret F_fc87
theorem X_fc53 {p : Prop} (e : p := by intro KZ hZ; simp -implicitDefEqProofs (disch := first | omega | (simp only [go_sem,lA,lD,lT] <;> omega) | decide) only [go_sem,↓reduceIte,Nat.reduceEqDiff,reduceCtorEq,Nat.reduceLT,Nat.reduceBEq,Nat.reduceAdd,e87,hy]; with_reducible exact hZ) : p := e
theorem F_fc53 {p : Prop} (e : p := by simp -implicitDefEqProofs (disch := first | omega | (simp only [go_sem,lA,lD,lT] <;> omega) | decide) only [go_sem,↓reduceIte,Nat.reduceEqDiff,reduceCtorEq]; all_goals (exact congrArg (fun z => some (C.val (.bool z))) (idxT_any l))) : p := e
theorem fc53 {gl : Nat → C} {M : Nat} {pu : Nat → List C → Option C} (hcx : CxOK (cxP gl M pu)) (h87 : ∀ l : List Leaf,LB l → pu 87 [sl eC .no l,.fn 54 []] = some (.val (.int .i64 (idxT l)))) (l : List Leaf) (hl : LB l) : FC Tryd.prog gl 53 [sl eC .no l,.fn 54 []] [] (.val (.bool (l.any bigE))) [] := by
 replace hcx := hcx.reN (M := 9)
 refine FC.ofA (cx := cxP gl 9 pu) (rs := [.tmp 4]) rfl Tryd.func53 rfl rfl rfl (by simp only [List.length_cons,List.length_nil]; decide) (by simp only [go_sem]) ?_
 simp only [ini,go_sem]
 have hy := True.intro
 have e87 := h87 l hl
 refine Tr.w hcx [] _ [] rfl rfl rfl ?_ X_fc53
 refine Tr.w hcx [1000008] _ [] rfl rfl rfl ?_ X_fc53
 exact Tr.ret F_fc53
theorem X_fc15 {p : Prop} (e : p := by intro KZ hZ; simp -implicitDefEqProofs (disch := first | omega | (simp only [go_sem,lA,lD,lT] <;> omega) | decide) only [go_sem,↓reduceIte,Nat.reduceEqDiff,reduceCtorEq,Nat.reduceLT,Nat.reduceBEq,Nat.reduceAdd,e53,b1,b2,b3,b4,hy]; with_reducible exact hZ) : p := e
theorem Y_fc15 {p : Prop} (e : p := by intro KZ hZ; simp -implicitDefEqProofs (disch := first | omega | (simp only [go_sem,lA,lD,lT] <;> omega) | decide) only [go_sem,↓reduceIte,Nat.reduceEqDiff,reduceCtorEq,Nat.reduceLT,Nat.reduceBEq,Nat.reduceAdd,e53,b1,b2,b3,b4,hy]; refine And.intro ?_ hZ; exact rfl) : p := e
theorem F_fc15 {p : Prop} (e : p := by simp -implicitDefEqProofs (disch := first | omega | (simp only [go_sem,lA,lD,lT] <;> omega) | decide) only [go_sem,↓reduceIte,Nat.reduceEqDiff,reduceCtorEq]; all_goals (first | (rw [valT_4 (Or.inl b1)]; done) | (rw [valT_4 (Or.inr b2)]; done) | (rw [valT_1 hno (incT_nn b3 b4 hc14)]; done) | (rw [valT_0 hno (incT_end hc14 (Or.inl hi.1) (fun _ => hi.2))]; done))) : p := e
theorem fc15 {gl : Nat → C} {M : Nat} {pu : Nat → List C → Option C} (hcx : CxOK (cxP gl M pu)) (h53 : ∀ l : List Leaf,LB l → pu 53 [sl eC .no l,.fn 54 []] = some (.val (.bool (l.any bigE)))) (l : List Leaf) (hl : LB l) : FC Tryd.prog gl 15 [sl eC .no l] [] (.val (nI (valT l))) [] := by
 replace hcx := hcx.reN (M := 33)
 refine FC.ofA (cx := cxP gl 33 pu) (rs := [.tmp 2]) rfl Tryd.func15 rfl rfl rfl (by simp only [List.length_cons,List.length_nil]; decide) (by simp only [go_sem]) ?_
 simp only [ini,go_sem]
 have b1 := True.intro
 have b2 := True.intro
 have b3 := True.intro
 have b4 := True.intro
 have hy := True.intro
 have e53 := h53 l hl
 have hl1 := hl.1
 refine Tr.w hcx [] _ [] rfl rfl rfl ?_ X_fc15
 refine Tr.seqK fun K1 hK1 => ?_
 by_cases b1 : 4096 < l.length
 ·
  refine Tr.w hcx [] [some 4,some 5,some 6,some 7,some 8,some 9,some 10] [] rfl rfl rfl ?_ X_fc15
  refine Tr.cT rfl ?_
  refine Tr.w hcx [] _ [] rfl rfl rfl ?_ X_fc15
  exact Tr.ret F_fc15
 by_cases b2 : l.any bigE = true
 ·
  skip
  refine Tr.w hcx [] [some 4,some 5,some 6,some 7,some 8,some 9,some 10] [] rfl rfl rfl ?_ X_fc15
  refine Tr.cT rfl ?_
  refine Tr.w hcx [] _ [] rfl rfl rfl ?_ X_fc15
  exact Tr.ret F_fc15
 have hno : ¬ (4096 < l.length ∨ l.any bigE = true) := fun h => h.elim b1 b2
 replace b2 := Bool.eq_false_iff.2 b2
 refine Tr.w hcx [] [some 4,some 5,some 6,some 7,some 8,some 9,some 10] [] rfl rfl rfl ?_ X_fc15
 refine Tr.cF rfl ?_
 refine Tr.skip ?_
 refine hK1 _ ?_
 refine Tr.seqK fun K2 hK2 => ?_
 refine Tr.w hcx [] _ [] rfl rfl rfl ?_ X_fc15
 refine Tr.k [0,12,13] ?_
 refine Tr.blk ?_
 refine Tr.loopI (α := Nat) (fun a => [(0,?v0_1),(12,?v12_1),(13,.val (nI a))]) (fun a => ?h_1) (fun a => a ≤ l.length ∧ incT l a = true) (fun a => l.length - a) (0) ⟨Nat.zero_le _,rfl⟩ ?le_1 ?hh_1 ?bd_1
 case hh_1 => exact rfl
 case le_1 => exact LT
 rintro i hi
 refine Tr.w hcx [] _ [] rfl rfl rfl ?_ X_fc15
 refine Tr.seqK fun K3 hK3 => ?_
 refine Tr.cD rfl (fun hc14 => ?_) (fun hc14 => ?_)
 ·
  refine Tr.skip ?_
  refine hK3 _ ?_
  refine Tr.seqK fun K4 hK4 => ?_
  refine Tr.blk ?_
  refine Tr.w hcx [1000015] _ [] rfl rfl rfl ?_ X_fc15
  by_cases b3 : 0 < i
  ·
   by_cases b4 : bl (gt l (i - 1)).1 (gt l i).1 = true
   ·
    skip
    have hb : i = 0 ∨ bl (gt l (i - 1)).1 (gt l i).1 = true := Or.inr b4
    refine Tr.wD hcx hMO [] [some 16,some 17,some 18,some 19,some 20,some 21,some 22,some 23,some 24,some 25,some 26,some 27,some 28,some 29,some 30,some 31] [] rfl rfl rfl rfl ?_ Y_fc15
    refine Tr.cF rfl ?_
    refine Tr.skip ?_
    refine hK4 _ ?_
    refine Tr.v hcx [] _ [] rfl rfl rfl ?_ X_fc15
    exact ⟨i + 1,⟨⟨by omega,incT_S hi.2 hb⟩,O1⟩,LT,rfl⟩
   replace b4 := Bool.eq_false_iff.2 b4
   have hb := True.intro
   refine Tr.wD hcx hMO [] [some 16,some 17,some 18,some 19,some 20,some 21,some 22,some 23,some 24,some 25,some 26,some 27,some 28,some 29,some 30,some 31] [] rfl rfl rfl rfl ?_ Y_fc15
   refine Tr.cT rfl ?_
   refine Tr.w hcx [] _ [] rfl rfl rfl ?_ X_fc15
   exact Tr.ret F_fc15
  have hb : i = 0 ∨ bl (gt l (i - 1)).1 (gt l i).1 = true := Or.inl (by omega)
  refine Tr.wD hcx hMO [] [some 16,some 17,some 18,some 19,some 20,some 21,some 22,some 23,some 24,some 25,some 26,some 27,some 28,some 29,some 30,some 31] [] rfl rfl rfl rfl ?_ Y_fc15
  refine Tr.cF rfl ?_
  refine Tr.skip ?_
  refine hK4 _ ?_
  refine Tr.v hcx [] _ [] rfl rfl rfl ?_ X_fc15
  exact ⟨i + 1,⟨⟨by omega,incT_S hi.2 hb⟩,O1⟩,LT,rfl⟩
 refine Tr.exit ?_
 refine hK2 _ ?_
 refine Tr.w hcx [] _ [] rfl rfl rfl ?_ X_fc15
 exact Tr.ret F_fc15
theorem X_fc16 {p : Prop} (e : p := by intro KZ hZ; simp -implicitDefEqProofs (disch := first | omega | (simp only [go_sem,lA,lD,lT] <;> omega) | decide) only [go_sem,↓reduceIte,Nat.reduceEqDiff,reduceCtorEq,Nat.reduceLT,Nat.reduceBEq,Nat.reduceAdd,b3,b4,b5,hy]; with_reducible exact hZ) : p := e
theorem Y_fc16 {p : Prop} (e : p := by intro KZ hZ; simp -implicitDefEqProofs (disch := first | omega | (simp only [go_sem,lA,lD,lT] <;> omega) | decide) only [go_sem,↓reduceIte,Nat.reduceEqDiff,reduceCtorEq,Nat.reduceLT,Nat.reduceBEq,Nat.reduceAdd,b3,b4,b5,hy]; refine And.intro ?_ hZ; exact rfl) : p := e
theorem F_fc16 {p : Prop} (e : p := by simp -implicitDefEqProofs (disch := first | omega | (simp only [go_sem,lA,lD,lT] <;> omega) | decide) only [go_sem,↓reduceIte,Nat.reduceEqDiff,reduceCtorEq]; all_goals (first | (rw [valT_4 (Or.inl hc7)]; done) | (rw [valT_4 (Or.inr (any_at hc11 (bigE_l b3)))]; done) | (rw [valT_4 (Or.inr (any_at hc11 (bigE_r b4)))]; done) | (rw [valT_1 hno (incT_nn hi.1 b5 hc33)]; done) | (rw [valT_0 hno (incT_end hc33 hi.2.1 hi.2.2)]; done))) : p := e
theorem fc16 {gl : Nat → C} {M : Nat} {pu : Nat → List C → Option C} (hcx : CxOK (cxP gl M pu)) (l : List Leaf) (hl : LB l) : FC Tryd.prog gl 16 [sl eC .no l] [] (.val (nI (valT l))) [] := by
 replace hcx := hcx.reN (M := 48)
 refine FC.ofA (cx := cxP gl 48 pu) (rs := [.tmp 2]) rfl Tryd.func16 rfl rfl rfl (by simp only [List.length_cons,List.length_nil]; decide) (by simp only [go_sem]) ?_
 simp only [ini,go_sem]
 have b3 := True.intro
 have b4 := True.intro
 have b5 := True.intro
 have hy := True.intro
 have hl1 := hl.1
 refine Tr.w hcx [] _ [] rfl rfl rfl ?_ X_fc16
 refine Tr.seqK fun K1 hK1 => ?_
 refine Tr.w hcx [] _ [] rfl rfl rfl ?_ X_fc16
 refine Tr.cD rfl (fun hc7 => ?_) (fun hc7 => ?_)
 ·
  have b1 := hc7
  refine Tr.w hcx [] _ [] rfl rfl rfl ?_ X_fc16
  exact Tr.ret F_fc16
 have b1 := hc7
 refine Tr.skip ?_
 refine hK1 _ ?_
 refine Tr.seqK fun K2 hK2 => ?_
 refine Tr.w hcx [] _ [] rfl rfl rfl ?_ X_fc16
 refine Tr.k [0,3] ?_
 refine Tr.blk ?_
 refine Tr.loopI (α := Nat) (fun a => [(0,?v0_1),(3,.val (nI a))]) (fun a => ?h_1) (fun a => a ≤ l.length ∧ (l.take a).any bigE = false) (fun a => l.length - a) (0) ⟨Nat.zero_le _,by rw [List.take_zero]; rfl⟩ ?le_1 ?hh_1 ?bd_1
 case hh_1 => exact rfl
 case le_1 => exact LT
 rintro i hi
 refine Tr.seqK fun K3 hK3 => ?_
 refine Tr.w hcx [] _ [] rfl rfl rfl ?_ X_fc16
 refine Tr.cD rfl (fun hc11 => ?_) (fun hc11 => ?_)
 ·
  have hlb := hl.2 i hc11
  refine Tr.skip ?_
  refine hK3 _ ?_
  refine Tr.seqK fun K4 hK4 => ?_
  refine Tr.blk ?_
  by_cases b3 : 65536 < (gt l i).1.length
  ·
   refine Tr.w hcx [] [some 14,some 15,some 16,some 17,some 18,some 19,some 20,some 21,some 22,some 23,some 24,some 25,some 26,some 27,some 28,some 29] [] rfl rfl rfl ?_ X_fc16
   refine Tr.cT rfl ?_
   refine Tr.w hcx [] _ [] rfl rfl rfl ?_ X_fc16
   exact Tr.ret F_fc16
  by_cases b4 : 65536 < (gt l i).2.length
  ·
   refine Tr.w hcx [] [some 14,some 15,some 16,some 17,some 18,some 19,some 20,some 21,some 22,some 23,some 24,some 25,some 26,some 27,some 28,some 29] [] rfl rfl rfl ?_ X_fc16
   refine Tr.cT rfl ?_
   refine Tr.w hcx [] _ [] rfl rfl rfl ?_ X_fc16
   exact Tr.ret F_fc16
  refine Tr.w hcx [] [some 14,some 15,some 16,some 17,some 18,some 19,some 20,some 21,some 22,some 23,some 24,some 25,some 26,some 27,some 28,some 29] [] rfl rfl rfl ?_ X_fc16
  refine Tr.cF rfl ?_
  refine Tr.skip ?_
  refine hK4 _ ?_
  refine Tr.v hcx [1000013] _ [] rfl rfl rfl ?_ X_fc16
  exact ⟨i + 1,⟨⟨by omega,by rw [any_snoc l i hc11,hi.2]; simp [bigE,b3,b4]⟩,O1⟩,LT,rfl⟩
 have hno : ¬ (4096 < l.length ∨ l.any bigE = true) := fun h => h.elim b1 (by rw [← List.take_of_length_le (show l.length ≤ i by omega),hi.2]; simp)
 refine Tr.exit ?_
 refine hK2 _ ?_
 refine Tr.seqK fun K5 hK5 => ?_
 refine Tr.w hcx [] _ [] rfl rfl rfl ?_ X_fc16
 refine Tr.k [0,4] ?_
 refine Tr.blk ?_
 refine Tr.loopI (α := Nat) (fun a => [(0,?v0_2),(4,.val (nI a))]) (fun a => ?h_2) (fun a => 0 < a ∧ (a ≤ l.length ∨ a = 1) ∧ (a ≤ l.length → incT l a = true)) (fun a => l.length - a) (1) ⟨by omega,Or.inr rfl,fun _ => rfl⟩ ?le_2 ?hh_2 ?bd_2
 case hh_2 => exact rfl
 case le_2 => exact LT
 rintro i hi
 refine Tr.seqK fun K6 hK6 => ?_
 refine Tr.w hcx [] _ [] rfl rfl rfl ?_ X_fc16
 refine Tr.cD rfl (fun hc33 => ?_) (fun hc33 => ?_)
 ·
  refine Tr.skip ?_
  refine hK6 _ ?_
  refine Tr.seqK fun K7 hK7 => ?_
  refine Tr.blk ?_
  by_cases b5 : bl (gt l (i - 1)).1 (gt l i).1 = true
  ·
   skip
   refine Tr.wD hcx hMO [] _ [] rfl rfl rfl rfl ?_ Y_fc16
   refine Tr.cF rfl ?_
   refine Tr.skip ?_
   refine hK7 _ ?_
   refine Tr.v hcx [1000035] _ [] rfl rfl rfl ?_ X_fc16
   exact ⟨i + 1,⟨⟨by omega,by omega,fun _ => incT_S (hi.2.2 (by omega)) (Or.inr b5)⟩,O1⟩,LT,rfl⟩
  replace b5 := Bool.eq_false_iff.2 b5
  refine Tr.wD hcx hMO [] _ [] rfl rfl rfl rfl ?_ Y_fc16
  refine Tr.cT rfl ?_
  refine Tr.w hcx [] _ [] rfl rfl rfl ?_ X_fc16
  exact Tr.ret F_fc16
 refine Tr.exit ?_
 refine hK5 _ ?_
 refine Tr.w hcx [] _ [] rfl rfl rfl ?_ X_fc16
 exact Tr.ret F_fc16
end Go.Sx
namespace Go.Sx
open Go.RowKit Go.Proofs
set_option maxRecDepth 100000
set_option maxHeartbeats 8000000
def aroundI (n : Int) (m : Nat) : Nat := ((if n < 0 then -(n + 1) else n).tmod (m : Int)).toNat
theorem around_int (n : Int) (m : Nat) : (((aroundI n m : Nat) : Int)) = (if n < 0 then -(n + 1) else n).tmod (m : Int) := by
  unfold aroundI
  refine Int.toNat_of_nonneg (Int.tmod_nonneg _ ?_)
  split <;> omega
theorem around_lt (n : Int) {m : Nat} (h : 0 < m) : aroundI n m < m := by
  have h1 := around_int n m
  have h2 := Int.tmod_lt_of_pos (if n < 0 then -(n + 1) else n) (b := (m : Int)) (by omega)
  omega
def atI (l : List Int) (i m : Nat) : Nat := if l.length ≤ i then 0 else aroundI (gt l i) m
theorem atI_lt (l : List Int) (i : Nat) {m : Nat} (h : 0 < m) : atI l i m < m := by
  unfold atI; split
  · exact h
  · exact around_lt _ h
def LI (l : List Int) : Prop := l.length ≤ 9223372036854775807 ∧ ∀ i,i < l.length → -9223372036854775808 ≤ gt l i ∧ gt l i ≤ 9223372036854775807
def keyT (n : Nat) : List UInt8 := if n % 3 = 0 then [UInt8.ofNat (97 + n / 3)] else [UInt8.ofNat (97 + n / 3),UInt8.ofNat (97 + n % 3)]
def vals5 : List (List UInt8) := [[],[49],[50],[97,32,98],[49,50]]
def lvsR (l : List Int) : Nat → List Leaf × Nat
  | 0 => ([],0)
  | i + 1 => ((lvsR l i).1 ++ [(keyT ((lvsR l i).2 + atI l (2 * i) 3),gt vals5 (atI l (2 * i + 1) 5))],(lvsR l i).2 + atI l (2 * i) 3 + 1)
def lvsN (l : List Int) : Nat := min ((l.length + 1) / 2) 11
def lvsT (l : List Int) : List Leaf := (lvsR l (lvsN l)).1
theorem lvsR_len (l : List Int) : ∀ i,(lvsR l i).1.length = i
  | 0 => rfl
  | i + 1 => by simp [lvsR,lvsR_len l i]
theorem lvsR_at (l : List Int) : ∀ i,(lvsR l i).2 ≤ 3 * i
  | 0 => Nat.zero_le _
  | i + 1 => by
    have h := lvsR_at l i
    have h2 := atI_lt l (2 * i) (m := 3) (by omega)
    simp only [lvsR]; omega
theorem keyT_len (n : Nat) : 1 ≤ (keyT n).length ∧ (keyT n).length ≤ 2 := by unfold keyT; split <;> simp
def kyT (l : List Leaf) (n : Int) : List UInt8 :=
  let k := aroundI n (3 * l.length + 5)
  if k < l.length then (gt l k).1 else if k < 2 * l.length then (gt l (k - l.length)).1 ++ [97] else if k = 2 * l.length then [] else keyT k
theorem key_1 {l : List Leaf} {n : Int} {k : Nat} (hk : aroundI n (3 * l.length + 5) = k) (h : k < l.length) : kyT l n = (gt l k).1 := by subst hk; exact if_pos h
theorem key_2 {l : List Leaf} {n : Int} {k : Nat} (hk : aroundI n (3 * l.length + 5) = k) (h : ¬ k < l.length) (h2 : k < 2 * l.length) : kyT l n = (gt l (k - l.length)).1 ++ [97] := by subst hk; unfold kyT; simp only []; rw [if_neg h,if_pos h2]
theorem key_3 {l : List Leaf} {n : Int} {k : Nat} (hk : aroundI n (3 * l.length + 5) = k) (h2 : k = 2 * l.length) : kyT l n = [] := by subst hk; unfold kyT; simp only []; rw [if_neg (by omega),if_neg (by omega),if_pos h2]
theorem key_4 {l : List Leaf} {n : Int} {k : Nat} (hk : aroundI n (3 * l.length + 5) = k) (h : ¬ k < l.length) (h2 : ¬ k < 2 * l.length) (h3 : ¬ k = 2 * l.length) : kyT l n = keyT k := by subst hk; unfold kyT; simp only []; rw [if_neg h,if_neg h2,if_neg h3]
theorem str_cong {x y : List UInt8} (h : x = y) : (some (C.val (str x))) = some (C.val (str y)) := by rw [h]
theorem X_fc17 {p : Prop} (e : p := by intro KZ hZ; simp -implicitDefEqProofs (disch := first | omega | (simp only [go_sem,lA,lD,lT] <;> omega) | decide) only [go_sem,↓reduceIte,Nat.reduceEqDiff,reduceCtorEq,Nat.reduceLT,Nat.reduceBEq,Nat.reduceAdd,hy]; with_reducible exact hZ) : p := e
theorem F_fc17 {p : Prop} (e : p := by simp -implicitDefEqProofs (disch := first | omega | (simp only [go_sem,lA,lD,lT] <;> omega) | decide) only [go_sem,↓reduceIte,Nat.reduceEqDiff,reduceCtorEq]; all_goals (exact congrArg (fun z => some (C.val (.int .i64 z))) (by rw [around_int]; first | (rw [if_pos (by omega)]; rfl) | rw [if_neg (by omega)]))) : p := e
theorem fc17 {gl : Nat → C} {M : Nat} {pu : Nat → List C → Option C} (hcx : CxOK (cxP gl M pu)) (n : Int) (m : Nat) (hn : -9223372036854775808 ≤ n ∧ n ≤ 9223372036854775807 ∧ 0 < m ∧ m ≤ 9223372036854775807) : FC Tryd.prog gl 17 [.val (.int .i64 n),.val (nI m)] [] (.val (nI (aroundI n m))) [] := by
 replace hcx := hcx.reN (M := 13)
 refine FC.ofA (cx := cxP gl 13 pu) (rs := [.tmp 4]) rfl Tryd.func17 rfl rfl rfl (by simp only [List.length_cons,List.length_nil]; decide) (by simp only [go_sem]) ?_
 simp only [ini,go_sem]
 have hy := True.intro
 refine Tr.w hcx [] _ [] rfl rfl rfl ?_ X_fc17
 refine Tr.seqK fun K1 hK1 => ?_
 refine Tr.w hcx [] _ [] rfl rfl rfl ?_ X_fc17
 refine Tr.cD rfl (fun hc6 => ?_) (fun hc6 => ?_)
 ·
  refine Tr.v hcx [1000009] _ [] rfl rfl rfl ?_ X_fc17
  refine hK1 _ ?_
  refine Tr.w hcx [1000012] _ [] rfl rfl rfl ?_ X_fc17
  exact Tr.ret F_fc17
 refine Tr.skip ?_
 refine hK1 _ ?_
 refine Tr.w hcx [1000012] _ [] rfl rfl rfl ?_ X_fc17
 exact Tr.ret F_fc17
theorem X_fc48 {p : Prop} (e : p := by intro KZ hZ; simp -implicitDefEqProofs (disch := first | omega | (simp only [go_sem,lA,lD,lT] <;> omega) | decide) only [go_sem,↓reduceIte,Nat.reduceEqDiff,reduceCtorEq,Nat.reduceLT,Nat.reduceBEq,Nat.reduceAdd,h17,Nat.not_lt_zero,hy]; with_reducible exact hZ) : p := e
theorem F_fc48 {p : Prop} (e : p := by simp -implicitDefEqProofs (disch := first | omega | (simp only [go_sem,lA,lD,lT] <;> omega) | decide) only [go_sem,↓reduceIte,Nat.reduceEqDiff,reduceCtorEq]; all_goals (exact congrArg (fun z => some (C.val (nI z))) (by unfold atI; first | rw [if_pos hc14] | rw [if_neg hc14]))) : p := e
theorem fc48 {gl : Nat → C} {M : Nat} {pu : Nat → List C → Option C} (hcx : CxOK (cxP gl M pu)) (h17 : ∀ (n : Int) (m : Nat),-9223372036854775808 ≤ n ∧ n ≤ 9223372036854775807 ∧ 0 < m ∧ m ≤ 9223372036854775807 → pu 17 [.val (.int .i64 n),.val (nI m)] = some (.val (nI (aroundI n m)))) (l : List Int) (i m : Nat) (hl : LI l) (hi : i ≤ 1000000) (hm : 0 < m ∧ m ≤ 9223372036854775807) : FC Tryd.prog gl 48 [sl iC .no l,.val (nI i),.val (nI m)] [] (.val (nI (atI l i m))) [] := by
 replace hcx := hcx.reN (M := 21)
 refine FC.ofA (cx := cxP gl 21 pu) (rs := [.tmp 6]) rfl Tryd.func48 rfl rfl rfl (by simp only [List.length_cons,List.length_nil]; decide) (by simp only [go_sem]) ?_
 simp only [ini,go_sem]
 have hy := True.intro
 have hl1 := hl.1
 refine Tr.w hcx [] _ [] rfl rfl rfl ?_ X_fc48
 refine Tr.seqK fun K1 hK1 => ?_
 refine Tr.w hcx [] [some 7,some 8,some 9,some 10,some 11,some 12,some 13,some 14] [] rfl rfl rfl ?_ X_fc48
 refine Tr.cD rfl (fun hc14 => ?_) (fun hc14 => ?_)
 ·
  refine Tr.w hcx [] _ [] rfl rfl rfl ?_ X_fc48
  exact Tr.ret F_fc48
 have hb1 := hl.2 i (by omega)
 refine Tr.skip ?_
 refine hK1 _ ?_
 refine Tr.w hcx [1000020] _ [] rfl rfl rfl ?_ X_fc48
 exact Tr.ret F_fc48
theorem X_fc49 {p : Prop} (e : p := by intro KZ hZ; simp -implicitDefEqProofs (disch := first | omega | (simp only [go_sem,lA,lD,lT] <;> omega) | decide) only [go_sem,↓reduceIte,Nat.reduceEqDiff,reduceCtorEq,Nat.reduceLT,Nat.reduceBEq,Nat.reduceAdd,hy]; with_reducible exact hZ) : p := e
theorem F_fc49 {p : Prop} (e : p := by simp -implicitDefEqProofs (disch := first | omega | (simp only [go_sem,lA,lD,lT] <;> omega) | decide) only [go_sem,↓reduceIte,Nat.reduceEqDiff,reduceCtorEq]; all_goals (exact str_cong (by unfold keyT; first | rw [if_pos hc5] | rw [if_neg hc5] <;> rfl))) : p := e
theorem fc49 {gl : Nat → C} {M : Nat} {pu : Nat → List C → Option C} (hcx : CxOK (cxP gl M pu)) (n : Nat) (hn : n ≤ 1000000000000) : FC Tryd.prog gl 49 [.val (nI n)] [] (.val (str (keyT n))) [] := by
 replace hcx := hcx.reN (M := 22)
 refine FC.ofA (cx := cxP gl 22 pu) (rs := [.tmp 2]) rfl Tryd.func49 rfl rfl rfl (by simp only [List.length_cons,List.length_nil]; decide) (by simp only [go_sem]) ?_
 simp only [ini,go_sem]
 have hy := True.intro
 refine Tr.w hcx [] _ [] rfl rfl rfl ?_ X_fc49
 refine Tr.seqK fun K1 hK1 => ?_
 refine Tr.w hcx [] _ [] rfl rfl rfl ?_ X_fc49
 refine Tr.cD rfl (fun hc5 => ?_) (fun hc5 => ?_)
 ·
  refine Tr.w hcx [1000011] _ [] rfl rfl rfl ?_ X_fc49
  exact Tr.ret F_fc49
 refine Tr.skip ?_
 refine hK1 _ ?_
 refine Tr.w hcx [1000021] _ [] rfl rfl rfl ?_ X_fc49
 exact Tr.ret F_fc49
theorem X_fc13 {p : Prop} (e : p := by intro KZ hZ; simp -implicitDefEqProofs (disch := first | omega | (simp only [go_sem,lA,lD,lT] <;> omega) | decide) only [go_sem,↓reduceIte,Nat.reduceEqDiff,reduceCtorEq,Nat.reduceLT,Nat.reduceBEq,Nat.reduceAdd,hy]; with_reducible exact hZ) : p := e
theorem Y_fc13 {p : Prop} (e : p := by intro KZ hZ; simp -implicitDefEqProofs (disch := first | omega | (simp only [go_sem,lA,lD,lT] <;> omega) | decide) only [go_sem,↓reduceIte,Nat.reduceEqDiff,reduceCtorEq,Nat.reduceLT,Nat.reduceBEq,Nat.reduceAdd,hy]; refine And.intro ?_ hZ; exact rfl) : p := e
theorem F_fc13 {p : Prop} (e : p := by simp -implicitDefEqProofs (disch := first | omega | (simp only [go_sem,lA,lD,lT] <;> omega) | decide) only [go_sem,↓reduceIte,Nat.reduceEqDiff,reduceCtorEq]; all_goals (rw [List.take_length])) : p := e
theorem fc13 {gl : Nat → C} {M : Nat} {pu : Nat → List C → Option C} (hcx : CxOK (cxP gl M pu)) (l : List Leaf) (hl : l.length ≤ 1000000) : FC Tryd.prog gl 13 [sl eC .no l] [] (sl eC (.own 2) l) [] := by
 replace hcx := hcx.reN (M := 26)
 refine FC.ofA (cx := cxP gl 26 pu) (rs := [.tmp 2]) rfl Tryd.func13 rfl rfl rfl (by simp only [List.length_cons,List.length_nil]; decide) (by simp only [go_sem]) ?_
 simp only [ini,go_sem]
 have hy := True.intro
 refine Tr.w hcx [] _ [] rfl rfl rfl ?_ X_fc13
 refine Tr.w hcx [] _ [] rfl rfl rfl ?_ X_fc13
 refine Tr.seqK fun K1 hK1 => ?_
 refine Tr.w hcx [] _ [] rfl rfl rfl ?_ X_fc13
 refine Tr.k [0,3,4] ?_
 refine Tr.blk ?_
 refine Tr.loopI (α := Nat) (fun a => [(0,?v0_1),(3,sl eC (.own 2) (l.take a)),(4,.val (nI a))]) (fun a => ?h_1) (fun a => a ≤ l.length) (fun a => l.length - a) (0) (Nat.zero_le _) ?le_1 ?hh_1 ?bd_1
 case hh_1 => exact rfl
 case le_1 => exact LT
 rintro i hi
 refine Tr.seqK fun K2 hK2 => ?_
 refine Tr.w hcx [] _ [] rfl rfl rfl ?_ X_fc13
 refine Tr.cD rfl (fun hc8 => ?_) (fun hc8 => ?_)
 ·
  refine Tr.skip ?_
  refine hK2 _ ?_
  refine Tr.seqK fun K3 hK3 => ?_
  refine Tr.blk ?_
  refine Tr.vD hcx hMO [11,1000024] _ [] rfl rfl rfl rfl ?_ Y_fc13
  refine hK3 _ ?_
  refine Tr.v hcx [1000010] _ [] rfl rfl rfl ?_ X_fc13
  refine ⟨i + 1,⟨by omega,O1⟩,?_,rfl⟩
  (simp only [Le_nil,Le_cons,↓A_cons,↓reduceIte,Nat.reduceEqDiff,CLe_refl,CLe_top,CLe_full,CLe_nil,CLe_own,and_true,true_and]; all_goals (repeat' first | exact CLe.refl _ | exact True.intro | (refine CLe_sln ?_; first | rfl | (simp only [List.take_zero]; done)) | exact CLe_nI (by omega) | exact CLe_int (by omega) | exact CLe_inI (by omega) | exact CLe_nIi (by omega) | with_reducible apply And.intro))
  all_goals (refine CLe_sl ?_; rw [← take_next l i hc8])
 obtain rfl : i = l.length := by omega
 refine Tr.exit ?_
 refine hK1 _ ?_
 refine Tr.w hcx [1000025] _ [] rfl rfl rfl ?_ X_fc13
 exact Tr.ret F_fc13
theorem X_fc18 {p : Prop} (e : p := by intro KZ hZ; simp -implicitDefEqProofs (disch := first | omega | (simp only [go_sem,lA,lD,lT] <;> omega) | decide) only [go_sem,↓reduceIte,Nat.reduceEqDiff,reduceCtorEq,Nat.reduceLT,Nat.reduceBEq,Nat.reduceAdd,hy]; with_reducible exact hZ) : p := e
theorem Y_fc18 {p : Prop} (e : p := by intro KZ hZ; simp -implicitDefEqProofs (disch := first | omega | (simp only [go_sem,lA,lD,lT] <;> omega) | decide) only [go_sem,↓reduceIte,Nat.reduceEqDiff,reduceCtorEq,Nat.reduceLT,Nat.reduceBEq,Nat.reduceAdd,hy]; refine And.intro ?_ hZ; exact rfl) : p := e
theorem F_fc18 {p : Prop} (e : p := by simp -implicitDefEqProofs (disch := first | omega | (simp only [go_sem,lA,lD,lT] <;> omega) | decide) only [go_sem,↓reduceIte,Nat.reduceEqDiff,reduceCtorEq]; all_goals (rw [List.take_length])) : p := e
theorem fc18 {gl : Nat → C} {M : Nat} {pu : Nat → List C → Option C} (hcx : CxOK (cxP gl M pu)) (l : List Leaf) (hl : l.length ≤ 1000000) : FC Tryd.prog gl 18 [sl eC .no l] [] (sl eC (.own 2) l) [] := by
 replace hcx := hcx.reN (M := 26)
 refine FC.ofA (cx := cxP gl 26 pu) (rs := [.tmp 2]) rfl Tryd.func18 rfl rfl rfl (by simp only [List.length_cons,List.length_nil]; decide) (by simp only [go_sem]) ?_
 simp only [ini,go_sem]
 have hy := True.intro
 refine Tr.w hcx [] _ [] rfl rfl rfl ?_ X_fc18
 refine Tr.w hcx [] _ [] rfl rfl rfl ?_ X_fc18
 refine Tr.seqK fun K1 hK1 => ?_
 refine Tr.w hcx [] _ [] rfl rfl rfl ?_ X_fc18
 refine Tr.k [0,3,4] ?_
 refine Tr.blk ?_
 refine Tr.loopI (α := Nat) (fun a => [(0,?v0_1),(3,sl eC (.own 2) (l.take a)),(4,.val (nI a))]) (fun a => ?h_1) (fun a => a ≤ l.length) (fun a => l.length - a) (0) (Nat.zero_le _) ?le_1 ?hh_1 ?bd_1
 case hh_1 => exact rfl
 case le_1 => exact LT
 rintro i hi
 refine Tr.seqK fun K2 hK2 => ?_
 refine Tr.w hcx [] _ [] rfl rfl rfl ?_ X_fc18
 refine Tr.cD rfl (fun hc8 => ?_) (fun hc8 => ?_)
 ·
  refine Tr.skip ?_
  refine hK2 _ ?_
  refine Tr.seqK fun K3 hK3 => ?_
  refine Tr.blk ?_
  refine Tr.vD hcx hMO [11,1000024] _ [] rfl rfl rfl rfl ?_ Y_fc18
  refine hK3 _ ?_
  refine Tr.v hcx [1000010] _ [] rfl rfl rfl ?_ X_fc18
  refine ⟨i + 1,⟨by omega,O1⟩,?_,rfl⟩
  (simp only [Le_nil,Le_cons,↓A_cons,↓reduceIte,Nat.reduceEqDiff,CLe_refl,CLe_top,CLe_full,CLe_nil,CLe_own,and_true,true_and]; all_goals (repeat' first | exact CLe.refl _ | exact True.intro | (refine CLe_sln ?_; first | rfl | (simp only [List.take_zero]; done)) | exact CLe_nI (by omega) | exact CLe_int (by omega) | exact CLe_inI (by omega) | exact CLe_nIi (by omega) | with_reducible apply And.intro))
  all_goals (refine CLe_sl ?_; rw [← take_next l i hc8])
 obtain rfl : i = l.length := by omega
 refine Tr.exit ?_
 refine hK1 _ ?_
 refine Tr.w hcx [1000025] _ [] rfl rfl rfl ?_ X_fc18
 exact Tr.ret F_fc18
end Go.Sx
