/-
   And what follows.
-/
import Derived.Test.YtcpdlhgkdogdjaaDoorPas
set_option linter.unusedSimpArgs false
set_option linter.unusedVariables false
namespace Go.Sx
open Go.RowKit Go.Proofs
def zV (_ : Unit) : List C := [.val (.slice none 0 0)]
def zA (_ : Unit) : List C := [.val (str []),.val (.slice none 0 0)]
instance : Sca zV (fun _ => .val (.slice none 0 0)) := ⟨fun _ => rfl,fun _ => rfl,fun _ => rfl,fun _ _ => rfl⟩
instance : Cel zA 2 := ⟨fun _ => rfl,fun _ => rfl,by decide,fun _ _ => rfl⟩
instance : Nrf zV := ⟨fun k x => rfl⟩
instance : Nrf zA := ⟨fun k x => rfl⟩
def uns (n : Nat) : List Unit := List.replicate n ()
theorem uns_len (n : Nat) : (uns n).length = n := List.length_replicate
theorem rep_zV (n : Nat) : repZero [.slice none 0 0] n = cl zV (uns n) := by
  induction n with
  | zero => rfl
  | succ n ih => show C.val (.slice none 0 0) :: repZero _ n = cl zV (() :: uns n); rw [ih]; rfl
theorem rep_zA (n : Nat) : repZero [.string ⟨#[]⟩,.slice none 0 0] n = cl zA (uns n) := by
  induction n with
  | zero => rfl
  | succ n ih => show C.val (str []) :: C.val (.slice none 0 0) :: repZero _ n = cl zA (() :: uns n); rw [ih]; rfl
theorem mks27 (n : Nat) (h : n ≤ 1000) : mksG Tryd.prog true (some ⟨.slice 46,1,24,[.slice none 0 0]⟩) (.val (nI n)) (.val (nI n)) = some (.new (cl zV (uns n)) fun id => .gv id n (1,46)) := by
  unfold mksG
  have e1 : (C.val (nI n)).int? = some (.i64,(n : Int)) := rfl
  simp only [e1,td46]
  rw [if_pos ⟨by omega,trivial,by omega,by omega,rfl,rfl⟩]
  rw [show ((n : Nat) : Int).toNat = n from rfl,rep_zV]
  rfl
theorem mks44 (n : Nat) (h : n ≤ 1000) : mksG Tryd.prog true (some ⟨.slice 48,1,24,[.slice none 0 0]⟩) (.val (nI n)) (.val (nI n)) = some (.new (cl zA (uns n)) fun id => .gv id n (2,48)) := by
  unfold mksG
  have e1 : (C.val (nI n)).int? = some (.i64,(n : Int)) := rfl
  simp only [e1,td48]
  rw [if_pos ⟨by omega,trivial,by omega,by omega,rfl,rfl⟩]
  rw [show ((n : Nat) : Int).toNat = n from rfl,rep_zA]
  rfl
theorem get_zV (n k : Nat) (x : C) (h : (cl zV (uns n))[k]? = some x) : x = .val (.slice none 0 0) := by
  have : ∀ n,cl zV (uns n) = List.replicate n (.val (.slice none 0 0)) := by
    intro n; induction n with
    | zero => rfl
    | succ n ih => rw [List.replicate_succ,← ih]; rfl
  rw [this,List.getElem?_replicate] at h
  split at h
  · cases h; rfl
  · cases h
theorem get_vN (n k : Nat) (x : C) (h : (cl vC (List.replicate n []))[k]? = some x) : x = sl aC .no [] := by
  have : ∀ n,cl vC (List.replicate n []) = List.replicate n (sl aC .no []) := by
    intro n; induction n with
    | zero => rfl
    | succ n ih => rw [List.replicate_succ,List.replicate_succ,← ih]; rfl
  rw [this,List.getElem?_replicate] at h
  split at h
  · cases h; rfl
  · cases h
theorem weakV (l : Wrk) (n : Nat) : (cl vC l ++ cl zV (uns n)).length = (cl vC (l ++ List.replicate n [])).length ∧ ∀ (k : Nat) (x x' : C),(cl vC l ++ cl zV (uns n))[k]? = some x → (cl vC (l ++ List.replicate n []))[k]? = some x' → CLe x x' ∧ notTup x' = true := by
  rw [cl_app]
  refine ⟨by rw [List.length_append,List.length_append,cl_len (f := zV),cl_len (f := vC) (List.replicate n []),uns_len,List.length_replicate],fun k x x' h1 h2 => ?_⟩
  by_cases hk : k < (cl vC l).length
  · rw [List.getElem?_append_left hk] at h1 h2
    rw [h1] at h2
    cases h2
    refine ⟨CLe.refl _,?_⟩
    have : ∀ (l : Wrk) (k : Nat) (x : C),(cl vC l)[k]? = some x → notTup x = true := by
      intro l
      induction l with
      | nil => intro k x h; simp [cl] at h
      | cons a l ih =>
        intro k x h
        rw [cl_cons] at h
        cases k with
        | zero => cases h; rfl
        | succ k => exact ih k x h
    exact this l k x h1
  · rw [List.getElem?_append_right (by omega)] at h1 h2
    rw [get_zV _ _ _ h1,get_vN _ _ _ h2]
    exact ⟨CLe.nil _,rfl⟩
theorem weakV0 (n : Nat) : (cl zV (uns n)).length = (cl vC (List.replicate n [])).length ∧ ∀ (k : Nat) (x x' : C),(cl zV (uns n))[k]? = some x → (cl vC (List.replicate n []))[k]? = some x' → CLe x x' ∧ notTup x' = true := weakV [] n
theorem weakA0 (n : Nat) : (cl zA (uns n)).length = (cl aC (List.replicate n ([],[]))).length ∧ ∀ (k : Nat) (x x' : C),(cl zA (uns n))[k]? = some x → (cl aC (List.replicate n ([],[])))[k]? = some x' → CLe x x' ∧ notTup x' = true := by
  induction n with
  | zero => exact ⟨rfl,fun k x x' h => by simp [cl,uns] at h⟩
  | succ n ih =>
    have e1 : cl zA (uns (n + 1)) = .val (str []) :: .val (.slice none 0 0) :: cl zA (uns n) := rfl
    have e2 : cl aC (List.replicate (n + 1) ([],[])) = .val (str []) :: sl pC .no [] :: cl aC (List.replicate n ([],[])) := rfl
    rw [e1,e2]
    refine ⟨by simp only [List.length_cons,ih.1],fun k x x' h1 h2 => ?_⟩
    rcases k with _ | _ | k
    · cases h1; cases h2; exact ⟨CLe.refl _,rfl⟩
    · cases h1; cases h2; exact ⟨CLe.nil _,rfl⟩
    · exact ih.2 k x x' h1 h2
theorem tdiv_rng (y : Int) (k : Nat) (hy : -9223372036854775808 ≤ y ∧ y ≤ 9223372036854775807) : -9223372036854775808 ≤ y.tdiv (k : Int) ∧ y.tdiv (k : Int) ≤ 9223372036854775807 := by
  have h1 : (y.tdiv (k : Int)).natAbs ≤ y.natAbs := by
    rw [Int.natAbs_tdiv]
    exact Nat.div_le_self _ _
  by_cases hp : 0 ≤ y
  · have h3 : 0 ≤ y.tdiv (k : Int) := Int.tdiv_nonneg hp (Int.natCast_nonneg k)
    omega
  · have h3 : y.tdiv (k : Int) ≤ 0 := by
      have := Int.tdiv_nonneg (a := -y) (b := (k : Int)) (by omega) (Int.natCast_nonneg k)
      rw [Int.neg_tdiv] at this
      omega
    omega
theorem wrc_V1 (w : Wrk) (v : Nat) (c : C) (h : v < w.length) : wrc (cl vC w) v [c] = some ((cl vC w).set v c,.val undef) := by
  have hl : (cl vC w).length = w.length := by rw [cl_len (f := vC),Nat.mul_one]
  unfold wrc
  rw [if_pos (by rw [hl]; exact h)]
  unfold splice
  rw [List.set_eq_take_append_cons_drop,if_pos (by omega)]
  simp
theorem wrc_fV1 (n m : Nat) (w : Wrk) (v : Nat) (c : C) (h : v < w.length) : wrc (fV n v m w) v [c] = some ((cl vC w).set v c,.val undef) := by
  have hl : (cl vC w).length = w.length := by rw [cl_len (f := vC),Nat.mul_one]
  unfold wrc fV
  rw [if_pos (by rw [List.length_set,hl]; exact h)]
  unfold splice
  rw [show ∀ l : List C,l.take v ++ [c] ++ l.drop (v + [c].length) = l.take v ++ c :: l.drop (v + 1) from fun l => by simp]
  have e := List.set_eq_take_append_cons_drop (l := (cl vC w).set v (.gv (n + 1) m (2,48))) (i := v) (a := c)
  rw [if_pos (by rw [List.length_set]; omega)] at e
  rw [← e,List.set_set]
theorem cl_setAt (V : Vol) (b : Nat) (t : List UInt8) : (cl aC V).set (b * 2) (.val (str t)) = cl aC (V.set b (t,(gt V b).2)) := by
  induction V generalizing b with
  | nil => rfl
  | cons x V ih =>
    cases b with
    | zero => rfl
    | succ b =>
      rw [cl_cons,List.set_cons_succ,cl_cons]
      show (C.val (str x.1) :: sl pC .no x.2 :: cl aC V).set ((b + 1) * 2) _ = _
      rw [show (b + 1) * 2 = b * 2 + 1 + 1 by omega,List.set_cons_succ,List.set_cons_succ,ih]
      rfl
theorem wrc_A1 (V : Vol) (k : Nat) (c : C) (h : k < V.length * 2) : wrc (cl aC V) k [c] = some ((cl aC V).set k c,.val undef) := by
  have hl : (cl aC V).length = V.length * 2 := cl_len (f := aC) V
  unfold wrc
  rw [if_pos (by rw [hl]; exact h)]
  unfold splice
  rw [List.set_eq_take_append_cons_drop,if_pos (by omega)]
  simp
theorem wrc_At (V : Vol) (b : Nat) (t : List UInt8) (h : b < V.length) : wrc (cl aC V) (b * 2) [.val (str t)] = some (cl aC (V.set b (t,(gt V b).2)),.val undef) := by rw [wrc_A1 V _ _ (by omega),cl_setAt]
theorem set_gt {α : Type} [Inhabited α] (l : List α) (i : Nat) : l.set i (gt l i) = l := by
  apply List.ext_getElem?
  intro j
  rw [List.getElem?_set]
  split
  · rename_i e; subst e
    split
    · rename_i hj; simp [gt,List.getD,List.getElem?_eq_getElem hj]
    · rename_i hj; rw [List.getElem?_eq_none (by omega)]
  · rfl
theorem LI_two (x y : Int) (hx : -9223372036854775808 ≤ x ∧ x ≤ 9223372036854775807) (hy : -9223372036854775808 ≤ y ∧ y ≤ 9223372036854775807) : LI [x,y] := by
  refine ⟨by show 2 ≤ _; decide,?_⟩
  intro i hi
  match i,hi with
  | 0,_ => exact hx
  | 1,_ => exact hy
  | i + 2,h => exact absurd h (by simp)
theorem fz_fVg {ok : Nat → Bool} {b n v m : Nat} {w : Wrk} {ys : List C} (hb : ¬ n + 1 = b) (h : ok (n + 1) = true) : fzCs ok b ys (fV n v m w) = fV n v m w := by
  unfold fV
  rw [fzs_set,fzCs_cl,fzC_gv,if_neg hb,if_pos h]
theorem fzs_dead (ok : Nat → Bool) (b : Nat) (ys : List C) : fzCs ok b ys deadC = deadC := rfl
theorem tit4_mk : sl sC .full ((((([] :: List.replicate 3 [] : List (List UInt8)).set 0 []).set 1 [97,32,64]).set 2 [32,98]).set 3 [116,104,101]) = sl sC .full tit4 := rfl
theorem tit4_mk' : sl sC .full (((((List.replicate 4 [] : List (List UInt8)).set 0 []).set 1 [97,32,64]).set 2 [32,98]).set 3 [116,104,101]) = sl sC .full tit4 := rfl
theorem tit4_ln : tit4.length = 4 := rfl
theorem rda_clpC0 (L : List Psg) (h : 0 < L.length) : rda (cl pC L) 0 7 = some (.agg (pC (gt L 0))) := by
  cases L with
  | nil => simp at h
  | cons x L => rfl
theorem wrc_clpC0 (L : List Psg) (x : Psg) (h : 0 < L.length) : wrc (cl pC L) 0 (pC x) = some (cl pC (L.set 0 x),.val undef) := by
  have := wrc_clpC L 0 x h
  rwa [Nat.zero_mul] at this
theorem spN_7 {w : Wrk} {v b : Nat} {y : Int} {n : Nat} (h0 : ¬ n = 0) (h1 : ¬ n = 1) (h2 : ¬ n = 2) (h3 : ¬ n = 3) (h4 : ¬ n = 4) (h5 : ¬ n = 5) (h6 : ¬ n = 6) : spN w v b y n = setL w v b ((gt (gt w v) b).2 ++ [oneP [y,y.tdiv ((8 : Nat) : Int)] 0 (((0 : Nat) : Int),((aroundI y 12 : Nat) : Int),((0 : Nat) : Int))]) := by
  rcases n with _ | _ | _ | _ | _ | _ | _ | n
  all_goals first | rfl | omega
theorem two_mk (y z : Int) : sl iC .full ((((List.replicate 2 0).set 0 y)).set 1 z) = sl iC .full [y,z] := rfl
theorem fV_get {n v m : Nat} {w : Wrk} (h : v < w.length) : (fV n v m w)[v]? = some (.gv (n + 1) m (2,48)) := by
  unfold fV
  rw [List.getElem?_set_self (by rw [cl_len (f := vC)]; omega)]
theorem wrs_Al (V : Vol) (b : Nat) (l : List Psg) (h : b < V.length) : wrs (cl aC V) (b * 2 + 1) (sl pC .no l) = some (cl aC (V.set b ((gt V b).1,l)),.val undef) := by
  have hl : (cl aC V).length = V.length * 2 := cl_len (f := aC) V
  unfold wrs; rw [if_pos (by omega),cl_setA]
theorem wrs_Ao (V : Vol) (b : Nat) (l : List Psg) (h : b < V.length) : wrs (cl aC V) (b * 2 + 1) (sl pC (.own 7) l) = some ((cl aC V).set (b * 2 + 1) (sl pC (.own 7) l),.val undef) := by
  have hl : (cl aC V).length = V.length * 2 := cl_len (f := aC) V
  unfold wrs; rw [if_pos (by omega)]
theorem live_sV (w : Wrk) (v b n : Nat) (s : Nat × Nat) : liveC (some ((cl vC w).set v (.gv b n s))) = some ((cl vC w).set v (.gv b n s)) := live_set (live_cl vC w) ..
theorem live_sVn (w : Wrk) (v : Nat) : liveC (some ((cl vC w).set v (.val (.slice none 0 0)))) = some ((cl vC w).set v (.val (.slice none 0 0))) := liveC_setC (live_cl vC w) v rfl
theorem live_sA (V : Vol) (k : Nat) (r : Rt) (l : List Psg) : liveC (some ((cl aC V).set k (sl pC r l))) = some ((cl aC V).set k (sl pC r l)) := liveC_setC (live_cl aC V) k rfl
attribute [go_sem] live_sV live_sVn live_sA
theorem fV_self (v m : Nat) (w : Wrk) : (fV 0 v m w).set v (.gv 1 m (2,48)) = fV 0 v m w := by unfold fV; rw [List.set_set]
theorem bsA_aCx (u : TypeDesc) (y : Nat) (x : Art) : bsA (some ⟨u,2,y,[str [],.slice none 0 0]⟩) 1 [(0,.agg (aC x))] = some (vp (sl aC .full [x])) := rfl
theorem bsA_aCn (u : TypeDesc) (y : Nat) (t : List UInt8) : bsA (some ⟨u,2,y,[str [],.slice none 0 0]⟩) 1 [(0,.agg [.val (str t),.val (.slice none 0 0)])] = some (vp (.sl .full 1 [.val (str t),.val (.slice none 0 0)])) := rfl
theorem gi_gen (P : Program) (e b n k : Nat) (u : TypeDesc) (z z2 : List Value) (he : td P e = some ⟨u,1,24,[.slice none 0 0]⟩) (h : n ≤ 1000000 ∧ k ≤ 1000) : growInt P ⟨.slice e,1,24,z⟩ ⟨.int .i64,1,8,z2⟩ (.gv b n (1,e)) (.val (.int .i64 (k : Int))) = some (.ap (some (b,n)) (1,e) k fun _ => some (cl zV (uns k))) := by
  unfold growInt
  simp only [he]
  have h0 : 0 ≤ (k : Int) := by omega
  have h1 : (k : Int) ≤ 65536 := by omega
  rw [if_pos ⟨trivial,h0,h1,by rw [Int.toNat_natCast]; omega,by rw [Int.toNat_natCast]; omega,by decide,rfl,rfl⟩,Int.toNat_natCast,rep_zV]
theorem gi_46 (b n k : Nat) (h : n ≤ 1000000 ∧ k ≤ 1000) : growInt Tryd.prog ⟨.slice 46,1,24,[.slice none 0 0]⟩ ⟨.int .i64,1,8,[nI 0]⟩ (.gv b n (1,46)) (.val (nI k)) = some (.ap (some (b,n)) (1,46) k fun _ => some (cl zV (uns k))) := gi_gen Tryd.prog 46 b n k _ _ _ td46 h
theorem bsA_pC0 (u : TypeDesc) (y : Nat) : bsA (some ⟨u,7,y,[nI 0,nI 0,nI 0,nI 0,nI 0,str [],.slice none 0 0]⟩) 0 [] = some (vp (sl pC .full [])) := rfl
theorem lay1s2' (y z : Int) : lay1s 2 (cl iC ((List.map Int.ofNat (List.replicate 2 0)).set 0 y)) [(1,.val (.int .i64 z))] = some (vp (sl iC .full [y,z])) := rfl
theorem mv_g3 (n : Nat) (s : Nat × Nat) : mvC [0,3,2] (.gv 3 n s) = .gv 1 n s := rfl
attribute [go_sem high] lay1s2'
section
variable (cx : Cx) (apps : List Nat) (dsts : List (Option Nat)) (l : List Oper) (id' : Nat) (d : Option Nat) (e : List (Nat × C)) (h : Hp) (fs : List FP) (K : List FP → St → Prop)
theorem stAB_zV (b n m : Nat) (w : Wrk) (hn : n = w.length) (hm : 0 < m) : stAB cx apps dsts l id' d e h fs K b n (1,46) m (cl zV (uns m)) (some (cl vC w)) = run cx apps dsts l id' (mkE d (.gv h.length (n + m) (1,46)) e) (h.set b (some deadC) ++ [some (cl vC w ++ cl zV (uns m))]) ((4,0) :: fs) K :=
  stAB_gen cx apps dsts l id' d e h fs K b n m 1 46 _ _ (cl_noR ..) (cl_noR ..) (by rw [cl_len (f := vC),hn]) hm (by decide)
theorem stAB_zV0 (b n : Nat) (w : Wrk) (hn : n = w.length) : stAB cx apps dsts l id' d e h fs K b n (1,46) 0 (cl zV (uns 0)) (some (cl vC w)) = run cx apps dsts l id' (mkE d (.gv b n (1,46)) e) (h.set b (some (cl vC w))) ((4,0) :: fs) K := by
  have hl : (cl vC w).length = n := by rw [cl_len (f := vC),Nat.mul_one,hn]
  have hs : splice (cl vC w) (n * 1) ((cl zV (uns 0)).map C.noR) = cl vC w := by
    show (cl vC w).take (n * 1) ++ [] ++ (cl vC w).drop (n * 1 + 0) = _
    simp
  unfold stAB
  simp only []
  rw [if_pos ⟨by simp only [Nat.add_zero,Nat.mul_one]; omega,.inr trivial⟩,hs]
  rfl
theorem stAB_aCn (b n : Nat) (V : Vol) (t : List UInt8) (hn : n * 2 = (cl aC V).length) : stAB cx apps dsts l id' d e h fs K b n (2,48) 1 [.val (str t),.val (.slice none 0 0)] (some (cl aC V)) = run cx apps dsts l id' (mkE d (.gv h.length (n + 1) (2,48)) e) (h.set b (some deadC) ++ [some (cl aC V ++ [.val (str t),.val (.slice none 0 0)])]) ((4,0) :: fs) K :=
  stAB_gen cx apps dsts l id' d e h fs K b n 1 2 48 _ _ (cl_noR ..) rfl hn (by decide) (by decide)
end
theorem aCn_get (V : Vol) (t : List UInt8) (x : C) : (cl aC V ++ [.val (str t),x])[V.length * 2 + 1]? = some x := by
  rw [List.getElem?_append_right (by rw [cl_len (f := aC)]; omega),cl_len (f := aC),show V.length * 2 + 1 - V.length * 2 = 1 by omega]
  rfl
theorem aCn_set (V : Vol) (t : List UInt8) (x : C) : (cl aC V ++ [.val (str t),x]).set (V.length * 2 + 1) (sl pC .no []) = cl aC (V ++ [(t,[])]) := by
  rw [List.set_append_right _ _ (by rw [cl_len (f := aC)]; omega),cl_len (f := aC),show V.length * 2 + 1 - V.length * 2 = 1 by omega,cl_app]
  rfl
theorem repA_snoc (V : Vol) (i : Nat) (x : Art) : V ++ List.replicate i x ++ [x] = V ++ List.replicate (i + 1) x := by
  rw [List.replicate_succ',List.append_assoc]
theorem live_aCn (V : Vol) (t : List UInt8) (x : C) : liveC (some (cl aC V ++ [.val (str t),x])) = some (cl aC V ++ [.val (str t),x]) := by
  cases V with
  | nil => rfl
  | cons a V => rw [cl_cons]; rfl
attribute [go_sem] stAB_zV stAB_zV0 gi_46 bsA_pC0 live_aCn stAB_aCn bsA_aCx bsA_aCn
attribute [go_sem high] fV_self wrs_Al wrs_Ao fV_get
attribute [go_sem] fz_fA fz_fV fz_fVg fzs_set fzs_dead
attribute [go_sem high] rda_clpC0 wrc_clpC0
attribute [go_sem high] wrc_V1 wrc_fV1 wrc_At
end Go.Sx
namespace Go.Sx
open Go.RowKit Go.Proofs
def xA (V : Vol) (a k : Nat) : List C := (cl aC V).set (a * 2 + 1) (.gv 0 k (7,37))
def xV (w : Wrk) (v a k : Nat) : List C := (cl vC w).set v (.sl .no (gt w v).length (xA (gt w v) a k))
def xF (w : Wrk) (v a k : Nat) : C := .sl .no w.length (xV w v a k)
theorem xF_noR (w : Wrk) (v a k : Nat) : (xF w v a k).noR = xF w v a k := rfl
theorem live_xF (w : Wrk) (v a k : Nat) (l : List C) : liveC (some (xF w v a k :: l)) = some (xF w v a k :: l) := rfl
theorem len_xA (V : Vol) (a k : Nat) : (xA V a k).length = V.length * 2 := by unfold xA; rw [List.length_set,cl_len (f := aC)]
theorem len_xV (w : Wrk) (v a k : Nat) : (xV w v a k).length = w.length := by unfold xV; rw [List.length_set,cl_len (f := vC),Nat.mul_one]
theorem drop_ne {l : List C} {k : Nat} (h : k < l.length) : l ≠ [] := fun e => by rw [e] at h; simp at h
theorem ixa_xF (P : Program) (a1 b1 : Nat) (z1 : List Value) (e : TypeId) (w : Wrk) (v a k : Nat) (i : C) : ixaP P (some ⟨.slice e,a1,b1,z1⟩) (xF w v a k) i = ixL (td P e) (idx? i w.length) w.length (xV w v a k) := rfl
theorem ixa_xA (P : Program) (a1 b1 : Nat) (z1 : List Value) (e : TypeId) (V : Vol) (n a k : Nat) (i : C) : ixaP P (some ⟨.slice e,a1,b1,z1⟩) (.sl .no n (xA V a k)) i = ixL (td P e) (idx? i n) n (xA V a k) := rfl
theorem ixL_xV (u : TypeDesc) (y : Nat) (z : List Value) (w : Wrk) (v a k : Nat) (h : v < w.length) : ixL (some ⟨u,1,y,z⟩) (some v) w.length (xV w v a k) = some (vp (.kp ((xV w v a k).drop v))) := by
  show (if (xV w v a k).length = w.length * 1 ∧ xV w v a k ≠ [] then some (vp (.kp ((xV w v a k).drop (v * 1)))) else none) = _
  rw [if_pos ⟨by rw [len_xV,Nat.mul_one],drop_ne (k := v) (by rw [len_xV]; exact h)⟩,Nat.mul_one]
theorem ixL_xA (u : TypeDesc) (y : Nat) (z : List Value) (V : Vol) (n a k : Nat) (h : a < n) (hn : n = V.length) : ixL (some ⟨u,2,y,z⟩) (some a) n (xA V a k) = some (vp (.kp ((xA V a k).drop (a * 2)))) := by
  subst hn
  show (if (xA V a k).length = V.length * 2 ∧ xA V a k ≠ [] then some (vp (.kp ((xA V a k).drop (a * 2)))) else none) = _
  rw [if_pos ⟨len_xA V a k,drop_ne (k := a) (by rw [len_xA]; omega)⟩]
theorem rdc_xV (w : Wrk) (v a k : Nat) (h : v < w.length) : rdc (xV w v a k) v = some (.sl .no (gt w v).length (xA (gt w v) a k)) := rdc_set_eq (by rw [cl_len (f := vC),Nat.mul_one]; exact h) rfl
theorem rda_xV (w : Wrk) (v a k : Nat) (h : v < w.length) : rda (xV w v a k) v 1 = some (.agg [.sl .no (gt w v).length (xA (gt w v) a k)]) := rda_set1 (by rw [cl_len (f := vC),Nat.mul_one]; exact h) rfl
theorem rdc_xA (V : Vol) (a k : Nat) (h : a < V.length) : rdc (xA V a k) (a * 2 + 1) = some (.gv 0 k (7,37)) := rdc_set_eq (by rw [cl_len (f := aC)]; omega) rfl
theorem dps_cl {α : Type} (f : α → List C) (hf : ∀ b ys x,dpCs b ys (f x) = f x) (b : Nat) (ys : List C) : ∀ l : List α,dpCs b ys (cl f l) = cl f l
  | [] => rfl
  | x :: l => by
    have e : ∀ (p q : List C),dpCs b ys (p ++ q) = dpCs b ys p ++ dpCs b ys q := by
      intro p q
      induction p with
      | nil => rfl
      | cons c p ih => simp only [List.cons_append,dpCs,ih]
    rw [cl_cons,e,hf,dps_cl f hf b ys l]
theorem dps_set (b : Nat) (ys : List C) (x : C) : ∀ (l : List C) (i : Nat),dpCs b ys (l.set i x) = (dpCs b ys l).set i (dpC b ys x)
  | [],_ => by simp only [List.set_nil,dpCs]
  | y :: l,0 => by simp only [List.set_cons_zero,dpCs]
  | y :: l,i + 1 => by simp only [List.set_cons_succ,dpCs,dps_set b ys x l i]
theorem dps_iD (b : Nat) (ys : List C) (x : ID) : dpCs b ys (iD x) = iD x := rfl
theorem dps_pC (b : Nat) (ys : List C) (x : Psg) : dpCs b ys (pC x) = pC x := by
  show dpCs b ys [_,_,_,_,_,_,sl iD .no x.2.2.2.2] = _
  simp only [dpCs,dpC,sl,dps_cl iD (dps_iD)]
  rfl
theorem dps_aC (b : Nat) (ys : List C) (x : Art) : dpCs b ys (aC x) = aC x := by
  show dpCs b ys [_,sl pC .no x.2] = _
  simp only [dpCs,dpC,sl,dps_cl pC (dps_pC)]
  rfl
theorem dps_vC (b : Nat) (ys : List C) (x : Vol) : dpCs b ys (vC x) = vC x := by
  show dpCs b ys [sl aC .no x] = _
  simp only [dpCs,dpC,sl,dps_cl aC (dps_aC)]
  rfl
theorem slv_of (w : Wrk) (v a : Nat) (L : List Psg) : C.sl .no w.length ((cl vC w).set v (.sl .no (gt w v).length (cl aC ((gt w v).set a ((gt (gt w v) a).1,L))))) = sl vC .no (setL w v a L) := by
  unfold setL
  have : ∀ V : Vol,V.length = (gt w v).length → (C.sl .no (gt w v).length (cl aC V)) = sl aC .no V := fun V h => by rw [← h]; rfl
  rw [this _ (List.length_set ..),cl_setV]
  unfold sl
  rw [List.length_set]
theorem dp_xF (w : Wrk) (v a : Nat) (L : List Psg) (hv : v < w.length) : dpC 0 (cl pC L) (xF w v a L.length) = sl vC .no (setL w v a L) := by
  have hL : (cl pC L).length = L.length * 7 := cl_len (f := pC) L
  have e1 : dpC 0 (cl pC L) (.gv 0 L.length (7,37)) = sl pC .no L := by
    unfold dpC
    rw [if_pos ⟨rfl,by rw [hL]; exact Nat.le_refl _⟩]
    show C.sl .no L.length ((cl pC L).take (L.length * 7)) = _
    rw [← hL,List.take_length]
    rfl
  unfold xF xV xA
  have e3 : ∀ (r : Rt) (n : Nat) (xs : List C),dpC 0 (cl pC L) (.sl r n xs) = .sl r n (dpCs 0 (cl pC L) xs) := fun _ _ _ => rfl
  rw [e3,dps_set,dps_cl vC dps_vC,e3,dps_set,dps_cl aC dps_aC,e1,cl_setA,slv_of]
theorem rdE_xF {cx : Cx} {g : Nat} {w : Wrk} {v a k : Nat} {L : List Psg} {rest : List C} {c : C} (hv : v < w.length) (hk : k = L.length) (hr : dpCs 0 (cl pC L) rest = rest) (hn : noRefs 0 (.agg [sl vC .no (setL w v a L)] :: rest) = true) (hp : cx.pu g (.agg [sl vC .no (setL w v a L)] :: rest) = some c) (hf : flat c = true) : rdE cx g (.agg [xF w v a k] :: rest) 0 (cl pC L) = some c := by
  subst hk
  have e : dpCs 0 ((cl pC L).map C.noR) (.agg [xF w v a L.length] :: rest) = .agg [sl vC .no (setL w v a L)] :: rest := by
    rw [cl_noR]
    show dpC 0 (cl pC L) (.agg [xF w v a L.length]) :: dpCs 0 (cl pC L) rest = _
    rw [hr]
    show C.agg (dpCs 0 (cl pC L) [xF w v a L.length]) :: rest = _
    show C.agg [dpC 0 (cl pC L) (xF w v a L.length)] :: rest = _
    rw [dp_xF w v a L hv]
  unfold rdE
  rw [e,if_pos hn,hp]
  simp only [hf,if_true]
theorem fz_xF (ok : Nat → Bool) (w : Wrk) (v a k : Nat) (L : List Psg) (hk : k = L.length) : fzC ok 0 (cl pC L) (xF w v a k) = sl vC .no (setL w v a L) := by
  subst hk
  rw [← slv_of]
  unfold xF xV xA
  simp only [fzC,fzs_set,fzCs_cl]
  have hL : (cl pC L).length = L.length * 7 := cl_len (f := pC) L
  rw [if_pos trivial,if_pos (by rw [hL]; exact Nat.le_refl _),← hL,List.take_length]
  congr 3
  exact cl_setA (gt w v) a L
theorem scrs_set (ok : Nat → Bool) (x : C) : ∀ (l : List C) (i : Nat),scrs ok (l.set i x) = (scrs ok l).set i (scr ok x)
  | [],_ => by simp only [List.set_nil,scrs]
  | y :: l,0 => by simp only [List.set_cons_zero,scrs]
  | y :: l,i + 1 => by simp only [List.set_cons_succ,scrs,scrs_set ok x l i]
theorem scrs_fA (ok : Nat → Bool) (a k : Nat) (V : Vol) (h : ok 2 = true) : scrs ok (fA 0 a k V) = fA 0 a k V := by
  unfold fA
  rw [scrs_set,scrs_cl]
  simp only [scr,h,if_true]
theorem fz_fV1 (ok : Nat → Bool) (v a k m : Nat) (w : Wrk) (V : Vol) (h : m = V.length) : fzCs ok 1 (fA 0 a k V) (fV 0 v m w) = (cl vC w).set v (.sl .no m (fA 0 a k V)) := by
  subst h
  unfold fV
  rw [fzs_set,fzCs_cl,fzC_gv,if_pos rfl]
  unfold fzGv
  simp only []
  rw [if_pos (by rw [len_fA]; exact Nat.le_refl _),← len_fA 0 a k V,List.take_length]
theorem set_noR (w : Wrk) (v n : Nat) (xs : List C) : ((cl vC w).set v (.sl .no n xs)).map C.noR = (cl vC w).set v (.sl .no n xs) := by rw [List.map_set,cl_noR]; rfl
theorem scrs_x (ok : Nat → Bool) (v n a k : Nat) (w : Wrk) (V : Vol) (h : ok 2 = true) : scrs ok ((cl vC w).set v (.sl .no n (fA 0 a k V))) = (cl vC w).set v (.sl .no n (fA 0 a k V)) := by
  rw [scrs_set,scrs_cl]
  simp only [scr,scrs_fA _ _ _ _ h]
theorem fzGv_x (w : Wrk) (v : Nat) (c : C) : fzGv ((cl vC w).set v c) w.length (1,46) = .sl .no w.length ((cl vC w).set v c) := by
  have hl : ((cl vC w).set v c).length = w.length * 1 := by rw [List.length_set,cl_len (f := vC)]
  unfold fzGv
  simp only []
  rw [if_pos (by rw [hl]; exact Nat.le_refl _),← hl,List.take_length]
theorem live_x (w : Wrk) (v n : Nat) (xs : List C) : liveC (some ((cl vC w).set v (.sl .no n xs))) = some ((cl vC w).set v (.sl .no n xs)) := liveC_setC (live_cl vC w) v rfl
theorem mv_x (w : Wrk) (v a k : Nat) : mvC [2,3,4] (.sl .no w.length ((cl vC w).set v (.sl .no (gt w v).length (fA 0 a k (gt w v))))) = xF w v a k := by
  unfold xF xV xA fA
  simp only [mvC,mvs_set,mvCs_cl]
  rfl
theorem rdE_Find {cx : Cx} {w : Wrk} {v a k : Nat} {x : ID} {c : C} (hv : v < w.length) (hk : k = (gt (gt w v) a).2.length) (hp : cx.pu 33 [.agg [sl vC .no w],.agg (iD x)] = some c) (hf : flat c = true) : rdE cx 33 [.agg [xF w v a k],.agg (iD x)] 0 (cl pC (gt (gt w v) a).2) = some c :=
  rdE_xF hv hk rfl (by
    show (noRefs 0 [sl vC .no (setL w v a (gt (gt w v) a).2)] && (noRefs 0 (iD x) && true)) = true
    have e : noRefs 0 [sl vC .no (setL w v a (gt (gt w v) a).2)] = true := by simp only [noRefs,noRef_sl,Bool.and_self]
    rw [e]; rfl) (by rw [setL_self]; exact hp) hf
attribute [go_sem] scrs_fA scrs_x set_noR fz_fV1 fzGv_x live_x fz_xF
theorem nr_xF (w : Wrk) (v a k : Nat) : noRef 1 (.agg [xF w v a k]) = true := by
  show (noRefs 1 (xV w v a k) && true) = true
  rw [Bool.and_true]
  have h1 : noRefs 1 (xA (gt w v) a k) = true := noRefs_set 1 (.gv 0 k (7,37)) rfl _ _ (noRefs_cl aC 1 _)
  exact noRefs_set 1 (.sl .no (gt w v).length (xA (gt w v) a k)) h1 _ _ (noRefs_cl vC 1 w)
theorem xF_asSv (w : Wrk) (v a k : Nat) : (xF w v a k).asSv = xF w v a k := rfl
theorem lenP_xF' (e a1 b1 : Nat) (z1 : List Value) (w : Wrk) (v a k : Nat) : lenP (some ⟨.slice e,a1,b1,z1⟩) (xF w v a k) = some (vp (.val (nI w.length))) := rfl
theorem lenP_xA' (e a1 b1 : Nat) (z1 : List Value) (n : Nat) (xs : List C) : lenP (some ⟨.slice e,a1,b1,z1⟩) (C.sl .no n xs) = some (vp (.val (nI n))) := rfl
attribute [go_sem] lenP_xF' lenP_xA' xF_asSv
theorem row1_nr (l : List Psg) (k : Nat) : nrH k [some (cl pC l)] = true := by
  rw [nrH_some,nrH_nil,Bool.and_true]; exact noRefs_cl pC k l
attribute [go_sem] xF_noR live_xF len_xA len_xV
attribute [go_sem high] ixa_xF ixa_xA ixL_xV ixL_xA rdc_xV rda_xV rdc_xA
end Go.Sx
namespace Go.Sx
open Go.RowKit Go.Proofs
set_option maxRecDepth 100000
set_option maxHeartbeats 8000000
theorem X_fc35c {p : Prop} (e : p := by intro KZ hZ; simp -implicitDefEqProofs (maxSteps := 2000000) (disch := first | omega | (simp only [go_sem,lA,lD,lT,hwl,hVl,hLl] <;> omega) | decide) only [go_sem,↓reduceIte,Nat.reduceEqDiff,reduceCtorEq,Nat.reduceLT,Nat.reduceBEq,Nat.reduceAdd,Nat.not_lt_zero,hv1,ha1,hj1,hX,hy]; with_reducible exact hZ) : p := e
theorem F_fc35c {p : Prop} (e : p := by simp -implicitDefEqProofs (disch := first | omega | (simp only [go_sem,lA,lD,lT,hwl,hVl,hLl] <;> omega) | decide) only [go_sem,↓reduceIte,Nat.reduceEqDiff,reduceCtorEq]; all_goals (exact ⟨rfl,rfl⟩)) : p := e
theorem fc35c {gl : Nat → C} {M : Nat} {pu : Nat → List C → Option C} (hcx : CxOK (cxP gl M pu)) (w : Wrk) (v a j : Nat) (hv : v < w.length) (ha : a < (gt w v).length) (hj : j < (gt (gt w v) a).2.length) (hw : WG w) : FC Tryd.prog gl 35 [.agg [xF w v a (gt (gt w v) a).2.length],.agg [.val (nI v),.val (nI a),.val (nI j)]] [some (cl pC (gt (gt w v) a).2)] (.tup [.agg (pC (gt (gt (gt w v) a).2 j)),.val (.bool true)]) [some (cl pC (gt (gt w v) a).2)] := by
 replace hcx := hcx.reN (M := 61)
 refine FC.ofT (cx := cxP gl 61 pu) (rs := [.cell 4 37,.tmp 5]) rfl Tryd.func35 rfl rfl rfl (by simp only [List.length_cons,List.length_nil]; decide) (by simp only [go_sem]) (row1_nr _ 1) ?_
 simp only [ini,go_sem]
 have hy := True.intro
 have hwl := hw.n
 have hwv := hw.v _ (gt_mem' w v hv)
 have hVl := hwv.1
 have hwa := hwv.2 _ (gt_mem' _ a ha)
 have hLl := hwa.2.1
 have hv1 : (w.length ≤ v) = False := eq_false (by omega)
 have ha1 : ((gt w v).length ≤ a) = False := eq_false (by omega)
 have hj1 : ((gt (gt w v) a).2.length ≤ j) = False := eq_false (by omega)
 have hX := And.intro (rdc_xV w v a (gt (gt w v) a).2.length hv) (And.intro (rda_xV w v a (gt (gt w v) a).2.length hv) (rdc_xA (gt w v) a (gt (gt w v) a).2.length ha))
 refine Tr.w hcx [] _ [none,none,none] rfl rfl rfl ?_ X_fc35c
 refine Tr.seqK fun K1 hK1 => ?_
 refine Tr.w hcx [] [some 8,some 9,some 10,some 11,some 12,some 13,some 14,some 15,some 16,some 17,some 18] [] rfl rfl rfl ?_ X_fc35c
 refine Tr.cF rfl ?_
 refine Tr.skip ?_
 refine hK1 _ ?_
 refine Tr.w hcx [] _ [none] rfl rfl rfl ?_ X_fc35c
 refine Tr.k [3,4,6] ?_
 refine Tr.seqK fun K2 hK2 => ?_
 refine Tr.w hcx [] [some 26,some 27,some 28,some 29,some 30,some 31,some 32,some 33,some 34,some 35,some 36] [] rfl rfl rfl ?_ X_fc35c
 refine Tr.cF rfl ?_
 refine Tr.skip ?_
 refine hK2 _ ?_
 refine Tr.w hcx [1000044] _ [] rfl rfl rfl ?_ X_fc35c
 refine Tr.k [3,4,7] ?_
 refine Tr.seqK fun K3 hK3 => ?_
 refine Tr.w hcx [] [some 45,some 46,some 47,some 48,some 49,some 50,some 51,some 52,some 53,some 54] [] rfl rfl rfl ?_ X_fc35c
 refine Tr.cF rfl ?_
 refine Tr.skip ?_
 refine hK3 _ ?_
 refine Tr.w hcx [] _ [] rfl rfl rfl ?_ X_fc35c
 exact Tr.ret F_fc35c
theorem X_fc92c {p : Prop} (e : p := by intro KZ hZ; simp -implicitDefEqProofs (maxSteps := 2000000) (disch := first | omega | (simp only [go_sem,lA,lD,lT,ch4_ln,txt9_ln] <;> omega) | decide) only [go_sem,↓reduceIte,Nat.reduceEqDiff,reduceCtorEq,Nat.reduceLT,Nat.reduceBEq,Nat.reduceAdd,n35,e35,h19,hX,txt9_mk,e7,hy]; with_reducible exact hZ) : p := e
theorem Y_fc92c {p : Prop} (e : p := by intro KZ hZ; simp -implicitDefEqProofs (maxSteps := 2000000) (disch := first | omega | (simp only [go_sem,lA,lD,lT,ch4_ln,txt9_ln] <;> omega) | decide) only [go_sem,↓reduceIte,Nat.reduceEqDiff,reduceCtorEq,Nat.reduceLT,Nat.reduceBEq,Nat.reduceAdd,n35,e35,h19,hX,txt9_mk,e7,hy]; with_reducible refine And.intro ?_ hZ; first | exact rfl | decide) : p := e
theorem F_fc92c {p : Prop} (e : p := by simp -implicitDefEqProofs (disch := first | omega | (simp only [go_sem,lA,lD,lT,ch4_ln,txt9_ln] <;> omega) | decide) only [go_sem,↓reduceIte,Nat.reduceEqDiff,reduceCtorEq]; all_goals (first | (rw [hC]; done) | (rw [hC]; rfl))) : p := e
theorem fc92c {gl : Nat → C} {M0 : Nat} {pu : Nat → List C → Option C} {hp : Nat → List C → Hp → Option (C × Hp)} (hcx : CxOK (cxR gl M0 pu hp)) (w : Wrk) (v a j : Nat) (how y : Int) (hv : v < w.length) (ha : a < (gt w v).length) (hj : j < (gt (gt w v) a).2.length) (hw : WG w) (hho : -9223372036854775808 ≤ how ∧ how ≤ 9223372036854775807) (hy0 : -9223372036854775808 ≤ y ∧ y ≤ 9223372036854775807) (n35 : ∀ xs : List C,pu 35 xs = none) (hq35 : ∀ suf : Hp,OkH suf → hp 35 [.agg [xF w v a (gt (gt w v) a).2.length],.agg [.val (nI v),.val (nI a),.val (nI j)]] ([some (cl pC (gt (gt w v) a).2)] ++ suf) = some (.tup [.agg (pC (gt (gt (gt w v) a).2 j)),.val (.bool true)],[some (cl pC (gt (gt w v) a).2)] ++ suf)) (h19 : ∀ (n : Int) (m : Nat),-9223372036854775808 ≤ n ∧ n ≤ 9223372036854775807 ∧ 0 < m ∧ m ≤ 9223372036854775807 → pu 19 [.val (.int .i64 n),.val (nI m)] = some (.val (nI (aroundI n m)))) : FC Tryd.prog gl 92 [.agg [xF w v a (gt (gt w v) a).2.length],.agg [.val (nI v),.val (nI a),.val (nI j)],.val (.int .i64 how),.val (.int .i64 y)] [some (cl pC (gt (gt w v) a).2)] (.agg [xF w v a (gt (gt w v) a).2.length]) [some (cl pC ((gt (gt w v) a).2.set j (chgP (gt (gt (gt w v) a).2 j) how y)))] := by
 replace hcx := hcx.reN (M := 120)
 refine FC.ofT (cx := cxR gl 120 pu hp) (rs := [.cell 8 29]) rfl Tryd.func92 rfl rfl rfl (by simp only [List.length_cons,List.length_nil]; decide) (nr_xF ..) (row1_nr _ 1) ?_
 simp only [ini,go_sem]
 have hy := True.intro
 have hwl := hw.n
 have hwv := hw.v _ (gt_mem' w v hv)
 have hVl := hwv.1
 have hwa := hwv.2 _ (gt_mem' _ a ha)
 have hLl := hwa.2.1
 have hv1 : (w.length ≤ v) = False := eq_false (by omega)
 have ha1 : ((gt w v).length ≤ a) = False := eq_false (by omega)
 have hj1 : ((gt (gt w v) a).2.length ≤ j) = False := eq_false (by omega)
 have hX := And.intro (rdc_xV w v a (gt (gt w v) a).2.length hv) (And.intro (rda_xV w v a (gt (gt w v) a).2.length hv) (rdc_xA (gt w v) a (gt (gt w v) a).2.length ha))
 have hMO := @hMOR
 have hPg := hwa.2.2 _ (gt_mem' _ j hj)
 have e35 := hq35 [some [xF w v a (gt (gt w v) a).2.length],some [.val (nI v),.val (nI a),.val (nI j)],some [.val (.slice none 0 0)],none] (OkH.cons rfl (OkH.cons rfl (OkH.cons rfl (OkH.cons rfl OkH.nil))))
 simp only [List.cons_append,List.nil_append] at e35
 have hA4 := around_lt y (m := 4) (by decide)
 have hA9 := around_lt y (m := 9) (by decide)
 have hA7 := around_lt y (m := 7) (by decide)
 have e7 : binPlan Tryd.prog .sub 3 (.val (nI (aroundI y 7))) (.val (nI 1)) = some (vp (.val (.int .i64 (((aroundI y 7 : Nat) : Int) - 1)))) := i_sub _ _ _ _ (by omega)
 obtain ⟨P,hP⟩ : ∃ P,gt (gt (gt w v) a).2 j = P := ⟨_,rfl⟩
 rw [hP] at e35 hPg
 rw [hP]
 have hPt := hPg.1
 have hPr := hPg.2.1
 refine Tr.w hcx [] _ [none,none,none] rfl rfl rfl ?_ X_fc92c
 refine Tr.w hcx [1000017] _ [none] rfl rfl rfl ?_ X_fc92c
 refine Tr.seqK fun K1 hK1 => ?_
 refine Tr.w hcx [] _ [] rfl rfl rfl ?_ X_fc92c
 refine Tr.cF rfl ?_
 refine Tr.skip ?_
 refine hK1 _ ?_
 refine Tr.k [2,3,4,5,8,9] ?_
 refine Tr.wD hcx hMO [1000032] _ [] rfl rfl rfl rfl ?_ Y_fc92c
 refine Tr.seqK fun K2 hK2 => ?_
 refine Tr.w hcx [] _ [] rfl rfl rfl ?_ X_fc92c
 refine Tr.blk ?_
 refine Tr.w hcx [1000040] _ [] rfl rfl rfl ?_ X_fc92c
 refine Tr.cD rfl (fun hc39 => ?_) (fun hc39 => ?_)
 ·
  have hC : chgP P how y = chgN P y 0 := by unfold chgP; rw [hc39]
  refine Tr.v hcx [] _ [] rfl rfl rfl ?_ X_fc92c
  refine hK2 _ ?_
  refine Tr.k [4,5,8,9,11] ?_
  first | (refine Tr.bxc 4 6 (sl iD .no (P.2.2.2.2 ++ [(((0 : Nat) : Int),((aroundI y 9 : Nat) : Int),((0 : Nat) : Int))])) ((pC P).set 6 (sl iD (.own 3) (P.2.2.2.2 ++ [(((0 : Nat) : Int),((aroundI y 9 : Nat) : Int),((0 : Nat) : Int))]))) rfl rfl (CLe.noR (sl iD (.own 3) _)) rfl ?_; simp only [pC_set6n]; simp only [List.set_cons_succ,List.set_cons_zero]) | (refine Tr.bxc 4 6 (sl iD .no [(-1,((0 : Nat) : Int),((aroundI y 2 : Nat) : Int))]) ((pC P).set 6 (sl iD .full [(-1,((0 : Nat) : Int),((aroundI y 2 : Nat) : Int))])) rfl rfl (CLe.full ..) rfl ?_; simp only [pC_set6n]; simp only [List.set_cons_succ,List.set_cons_zero]) | skip
  refine Tr.w hcx [] _ [] rfl rfl rfl ?_ X_fc92c
  refine Tr.w hcx [] _ [] rfl rfl rfl ?_ X_fc92c
  exact Tr.ret F_fc92c
 refine Tr.w hcx [1000050] _ [] rfl rfl rfl ?_ X_fc92c
 refine Tr.cD rfl (fun hc49 => ?_) (fun hc49 => ?_)
 ·
  have hC : chgP P how y = chgN P y 1 := by unfold chgP; rw [hc49]
  refine Tr.v hcx [] _ [] rfl rfl rfl ?_ X_fc92c
  refine hK2 _ ?_
  refine Tr.k [4,5,8,9,11] ?_
  first | (refine Tr.bxc 4 6 (sl iD .no (P.2.2.2.2 ++ [(((0 : Nat) : Int),((aroundI y 9 : Nat) : Int),((0 : Nat) : Int))])) ((pC P).set 6 (sl iD (.own 3) (P.2.2.2.2 ++ [(((0 : Nat) : Int),((aroundI y 9 : Nat) : Int),((0 : Nat) : Int))]))) rfl rfl (CLe.noR (sl iD (.own 3) _)) rfl ?_; simp only [pC_set6n]; simp only [List.set_cons_succ,List.set_cons_zero]) | (refine Tr.bxc 4 6 (sl iD .no [(-1,((0 : Nat) : Int),((aroundI y 2 : Nat) : Int))]) ((pC P).set 6 (sl iD .full [(-1,((0 : Nat) : Int),((aroundI y 2 : Nat) : Int))])) rfl rfl (CLe.full ..) rfl ?_; simp only [pC_set6n]; simp only [List.set_cons_succ,List.set_cons_zero]) | skip
  refine Tr.w hcx [] _ [] rfl rfl rfl ?_ X_fc92c
  refine Tr.w hcx [] _ [] rfl rfl rfl ?_ X_fc92c
  exact Tr.ret F_fc92c
 refine Tr.w hcx [1000060] _ [] rfl rfl rfl ?_ X_fc92c
 refine Tr.k [3,4,5,8,9,11,34,59] ?_
 refine Tr.cD rfl (fun hc59 => ?_) (fun hc59 => ?_)
 ·
  have hC : chgP P how y = chgN P y 2 := by unfold chgP; rw [hc59]
  refine Tr.v hcx [] _ [] rfl rfl rfl ?_ X_fc92c
  refine hK2 _ ?_
  first | (refine Tr.bxc 4 6 (sl iD .no (P.2.2.2.2 ++ [(((0 : Nat) : Int),((aroundI y 9 : Nat) : Int),((0 : Nat) : Int))])) ((pC P).set 6 (sl iD (.own 3) (P.2.2.2.2 ++ [(((0 : Nat) : Int),((aroundI y 9 : Nat) : Int),((0 : Nat) : Int))]))) rfl rfl (CLe.noR (sl iD (.own 3) _)) rfl ?_; simp only [pC_set6n]; simp only [List.set_cons_succ,List.set_cons_zero]) | (refine Tr.bxc 4 6 (sl iD .no [(-1,((0 : Nat) : Int),((aroundI y 2 : Nat) : Int))]) ((pC P).set 6 (sl iD .full [(-1,((0 : Nat) : Int),((aroundI y 2 : Nat) : Int))])) rfl rfl (CLe.full ..) rfl ?_; simp only [pC_set6n]; simp only [List.set_cons_succ,List.set_cons_zero]) | skip
  refine Tr.w hcx [] _ [] rfl rfl rfl ?_ X_fc92c
  refine Tr.w hcx [] _ [] rfl rfl rfl ?_ X_fc92c
  exact Tr.ret F_fc92c
 refine Tr.w hcx [1000070] _ [] rfl rfl rfl ?_ X_fc92c
 refine Tr.cD rfl (fun hc69 => ?_) (fun hc69 => ?_)
 ·
  have hC : chgP P how y = chgN P y 3 := by unfold chgP; rw [hc69]
  refine Tr.v hcx [] _ [] rfl rfl rfl ?_ X_fc92c
  refine hK2 _ ?_
  first | (refine Tr.bxc 4 6 (sl iD .no (P.2.2.2.2 ++ [(((0 : Nat) : Int),((aroundI y 9 : Nat) : Int),((0 : Nat) : Int))])) ((pC P).set 6 (sl iD (.own 3) (P.2.2.2.2 ++ [(((0 : Nat) : Int),((aroundI y 9 : Nat) : Int),((0 : Nat) : Int))]))) rfl rfl (CLe.noR (sl iD (.own 3) _)) rfl ?_; simp only [pC_set6n]; simp only [List.set_cons_succ,List.set_cons_zero]) | (refine Tr.bxc 4 6 (sl iD .no [(-1,((0 : Nat) : Int),((aroundI y 2 : Nat) : Int))]) ((pC P).set 6 (sl iD .full [(-1,((0 : Nat) : Int),((aroundI y 2 : Nat) : Int))])) rfl rfl (CLe.full ..) rfl ?_; simp only [pC_set6n]; simp only [List.set_cons_succ,List.set_cons_zero]) | skip
  refine Tr.w hcx [] _ [] rfl rfl rfl ?_ X_fc92c
  refine Tr.w hcx [] _ [] rfl rfl rfl ?_ X_fc92c
  exact Tr.ret F_fc92c
 refine Tr.w hcx [1000076] _ [] rfl rfl rfl ?_ X_fc92c
 refine Tr.cD rfl (fun hc75 => ?_) (fun hc75 => ?_)
 ·
  have hC : chgP P how y = chgN P y 4 := by unfold chgP; rw [hc75]
  refine Tr.v hcx [] _ [] rfl rfl rfl ?_ X_fc92c
  refine hK2 _ ?_
  first | (refine Tr.bxc 4 6 (sl iD .no (P.2.2.2.2 ++ [(((0 : Nat) : Int),((aroundI y 9 : Nat) : Int),((0 : Nat) : Int))])) ((pC P).set 6 (sl iD (.own 3) (P.2.2.2.2 ++ [(((0 : Nat) : Int),((aroundI y 9 : Nat) : Int),((0 : Nat) : Int))]))) rfl rfl (CLe.noR (sl iD (.own 3) _)) rfl ?_; simp only [pC_set6n]; simp only [List.set_cons_succ,List.set_cons_zero]) | (refine Tr.bxc 4 6 (sl iD .no [(-1,((0 : Nat) : Int),((aroundI y 2 : Nat) : Int))]) ((pC P).set 6 (sl iD .full [(-1,((0 : Nat) : Int),((aroundI y 2 : Nat) : Int))])) rfl rfl (CLe.full ..) rfl ?_; simp only [pC_set6n]; simp only [List.set_cons_succ,List.set_cons_zero]) | skip
  refine Tr.w hcx [] _ [] rfl rfl rfl ?_ X_fc92c
  refine Tr.w hcx [] _ [] rfl rfl rfl ?_ X_fc92c
  exact Tr.ret F_fc92c
 refine Tr.w hcx [1000082] _ [] rfl rfl rfl ?_ X_fc92c
 refine Tr.cD rfl (fun hc81 => ?_) (fun hc81 => ?_)
 ·
  have hC : chgP P how y = chgN P y 5 := by unfold chgP; rw [hc81]
  refine Tr.v hcx [] _ [] rfl rfl rfl ?_ X_fc92c
  refine hK2 _ ?_
  first | (refine Tr.bxc 4 6 (sl iD .no (P.2.2.2.2 ++ [(((0 : Nat) : Int),((aroundI y 9 : Nat) : Int),((0 : Nat) : Int))])) ((pC P).set 6 (sl iD (.own 3) (P.2.2.2.2 ++ [(((0 : Nat) : Int),((aroundI y 9 : Nat) : Int),((0 : Nat) : Int))]))) rfl rfl (CLe.noR (sl iD (.own 3) _)) rfl ?_; simp only [pC_set6n]; simp only [List.set_cons_succ,List.set_cons_zero]) | (refine Tr.bxc 4 6 (sl iD .no [(-1,((0 : Nat) : Int),((aroundI y 2 : Nat) : Int))]) ((pC P).set 6 (sl iD .full [(-1,((0 : Nat) : Int),((aroundI y 2 : Nat) : Int))])) rfl rfl (CLe.full ..) rfl ?_; simp only [pC_set6n]; simp only [List.set_cons_succ,List.set_cons_zero]) | skip
  refine Tr.w hcx [] _ [] rfl rfl rfl ?_ X_fc92c
  refine Tr.w hcx [] _ [] rfl rfl rfl ?_ X_fc92c
  exact Tr.ret F_fc92c
 refine Tr.w hcx [1000090] _ [] rfl rfl rfl ?_ X_fc92c
 refine Tr.cD rfl (fun hc89 => ?_) (fun hc89 => ?_)
 ·
  have hC : chgP P how y = chgN P y 6 := by unfold chgP; rw [hc89]
  refine Tr.v hcx [91,94] _ [] rfl rfl rfl ?_ X_fc92c
  refine hK2 _ ?_
  refine Tr.k [4,5,8,9,11] ?_
  first | (refine Tr.bxc 4 6 (sl iD .no (P.2.2.2.2 ++ [(((0 : Nat) : Int),((aroundI y 9 : Nat) : Int),((0 : Nat) : Int))])) ((pC P).set 6 (sl iD (.own 3) (P.2.2.2.2 ++ [(((0 : Nat) : Int),((aroundI y 9 : Nat) : Int),((0 : Nat) : Int))]))) rfl rfl (CLe.noR (sl iD (.own 3) _)) rfl ?_; simp only [pC_set6n]; simp only [List.set_cons_succ,List.set_cons_zero]) | (refine Tr.bxc 4 6 (sl iD .no [(-1,((0 : Nat) : Int),((aroundI y 2 : Nat) : Int))]) ((pC P).set 6 (sl iD .full [(-1,((0 : Nat) : Int),((aroundI y 2 : Nat) : Int))])) rfl rfl (CLe.full ..) rfl ?_; simp only [pC_set6n]; simp only [List.set_cons_succ,List.set_cons_zero]) | skip
  refine Tr.w hcx [] _ [] rfl rfl rfl ?_ X_fc92c
  refine Tr.w hcx [] _ [] rfl rfl rfl ?_ X_fc92c
  exact Tr.ret F_fc92c
 refine Tr.w hcx [1000102] _ [] rfl rfl rfl ?_ X_fc92c
 refine Tr.cD rfl (fun hc101 => ?_) (fun hc101 => ?_)
 ·
  have hC : chgP P how y = chgN P y 7 := by unfold chgP; rw [hc101]
  refine Tr.v hcx [] _ [] rfl rfl rfl ?_ X_fc92c
  refine hK2 _ ?_
  refine Tr.k [4,5,8,9,11] ?_
  first | (refine Tr.bxc 4 6 (sl iD .no (P.2.2.2.2 ++ [(((0 : Nat) : Int),((aroundI y 9 : Nat) : Int),((0 : Nat) : Int))])) ((pC P).set 6 (sl iD (.own 3) (P.2.2.2.2 ++ [(((0 : Nat) : Int),((aroundI y 9 : Nat) : Int),((0 : Nat) : Int))]))) rfl rfl (CLe.noR (sl iD (.own 3) _)) rfl ?_; simp only [pC_set6n]; simp only [List.set_cons_succ,List.set_cons_zero]) | (refine Tr.bxc 4 6 (sl iD .no [(-1,((0 : Nat) : Int),((aroundI y 2 : Nat) : Int))]) ((pC P).set 6 (sl iD .full [(-1,((0 : Nat) : Int),((aroundI y 2 : Nat) : Int))])) rfl rfl (CLe.full ..) rfl ?_; simp only [pC_set6n]; simp only [List.set_cons_succ,List.set_cons_zero]) | skip
  refine Tr.w hcx [] _ [] rfl rfl rfl ?_ X_fc92c
  refine Tr.w hcx [] _ [] rfl rfl rfl ?_ X_fc92c
  exact Tr.ret F_fc92c
 refine Tr.w hcx [1000109] _ [] rfl rfl rfl ?_ X_fc92c
 refine Tr.cD rfl (fun hc108 => ?_) (fun hc108 => ?_)
 ·
  have hC : chgP P how y = chgN P y 8 := by unfold chgP; rw [hc108]
  refine Tr.v hcx [] _ [] rfl rfl rfl ?_ X_fc92c
  refine hK2 _ ?_
  refine Tr.k [4,5,8,9,11] ?_
  first | (refine Tr.bxc 4 6 (sl iD .no (P.2.2.2.2 ++ [(((0 : Nat) : Int),((aroundI y 9 : Nat) : Int),((0 : Nat) : Int))])) ((pC P).set 6 (sl iD (.own 3) (P.2.2.2.2 ++ [(((0 : Nat) : Int),((aroundI y 9 : Nat) : Int),((0 : Nat) : Int))]))) rfl rfl (CLe.noR (sl iD (.own 3) _)) rfl ?_; simp only [pC_set6n]; simp only [List.set_cons_succ,List.set_cons_zero]) | (refine Tr.bxc 4 6 (sl iD .no [(-1,((0 : Nat) : Int),((aroundI y 2 : Nat) : Int))]) ((pC P).set 6 (sl iD .full [(-1,((0 : Nat) : Int),((aroundI y 2 : Nat) : Int))])) rfl rfl (CLe.full ..) rfl ?_; simp only [pC_set6n]; simp only [List.set_cons_succ,List.set_cons_zero]) | skip
  refine Tr.w hcx [] _ [] rfl rfl rfl ?_ X_fc92c
  refine Tr.w hcx [] _ [] rfl rfl rfl ?_ X_fc92c
  exact Tr.ret F_fc92c
 have hC : chgP P how y = _ := chgN_9 hc39 hc49 hc59 hc69 hc75 hc81 hc89 hc101 hc108
 refine Tr.v hcx [] _ [] rfl rfl rfl ?_ X_fc92c
 refine hK2 _ ?_
 refine Tr.k [4,5,8,9,11] ?_
 first | (refine Tr.bxc 4 6 (sl iD .no (P.2.2.2.2 ++ [(((0 : Nat) : Int),((aroundI y 9 : Nat) : Int),((0 : Nat) : Int))])) ((pC P).set 6 (sl iD (.own 3) (P.2.2.2.2 ++ [(((0 : Nat) : Int),((aroundI y 9 : Nat) : Int),((0 : Nat) : Int))]))) rfl rfl (CLe.noR (sl iD (.own 3) _)) rfl ?_; simp only [pC_set6n]; simp only [List.set_cons_succ,List.set_cons_zero]) | (refine Tr.bxc 4 6 (sl iD .no [(-1,((0 : Nat) : Int),((aroundI y 2 : Nat) : Int))]) ((pC P).set 6 (sl iD .full [(-1,((0 : Nat) : Int),((aroundI y 2 : Nat) : Int))])) rfl rfl (CLe.full ..) rfl ?_; simp only [pC_set6n]; simp only [List.set_cons_succ,List.set_cons_zero]) | skip
 refine Tr.w hcx [] _ [] rfl rfl rfl ?_ X_fc92c
 refine Tr.w hcx [] _ [] rfl rfl rfl ?_ X_fc92c
 exact Tr.ret F_fc92c
end Go.Sx
namespace Go.Sx
open Go.RowKit Go.Proofs
set_option maxRecDepth 100000
set_option maxHeartbeats 8000000
theorem X_fc51A {p : Prop} (e : p := by intro KZ hZ; simp -implicitDefEqProofs (maxSteps := 2000000) (disch := first | omega | (simp only [go_sem,lA,lD,lT,hwl] <;> omega) | decide) only [go_sem,↓reduceIte,Nat.reduceEqDiff,reduceCtorEq,Nat.reduceLT,Nat.reduceBEq,Nat.reduceAdd,n20,n14,n33,n92,e20,e14,e33,e92,h19,h1,h0,hy]; with_reducible exact hZ) : p := e
theorem Y_fc51A {p : Prop} (e : p := by intro KZ hZ; simp -implicitDefEqProofs (maxSteps := 2000000) (disch := first | omega | (simp only [go_sem,lA,lD,lT,hwl] <;> omega) | decide) only [go_sem,↓reduceIte,Nat.reduceEqDiff,reduceCtorEq,Nat.reduceLT,Nat.reduceBEq,Nat.reduceAdd,n20,n14,n33,n92,e20,e14,e33,e92,h19,h1,h0,hy]; with_reducible refine And.intro ?_ hZ; first | exact rfl | decide) : p := e
theorem F_fc51A {p : Prop} (e : p := by simp -implicitDefEqProofs (disch := first | omega | (simp only [go_sem,lA,lD,lT,hwl] <;> omega) | decide) only [go_sem,↓reduceIte,Nat.reduceEqDiff,reduceCtorEq]; all_goals (rw [hS])) : p := e
theorem fc51A {gl : Nat → C} {M0 : Nat} {pu : Nat → List C → Option C} {hp : Nat → List C → Hp → Option (C × Hp)} (hcx : CxOK (cxR gl M0 pu hp)) (w : Wrk) (how y : Int) (v a : Nat) (hw : WG w) (hho : -9223372036854775808 ≤ how ∧ how ≤ 9223372036854775807) (hy0 : -9223372036854775808 ≤ y ∧ y ≤ 9223372036854775807) (j : Nat) (hv : v < w.length) (ha : a < (gt w v).length) (hj : j < (gt (gt w v) a).2.length) (h0 : 0 < (alW w).length) (h1 : aroundI how 2 = 0) (hf : fnd w (gt (alW w) (aroundI y (alW w).length)).1 = ((v,a,j),true)) (n20 : ∀ xs : List C,pu 20 xs = none) (n14 : ∀ xs : List C,pu 14 xs = none) (n33 : ∀ (xs : List C) (k : Nat),pu 33 (.agg [xF w v a k] :: xs) = none) (n92 : ∀ xs : List C,pu 92 xs = none) (hq20 : ∀ pre : Hp,OkH pre → hp 20 [.agg [sl vC .no w]] pre = some (.agg [.gv pre.length w.length (1,46)],pre ++ [some (fV pre.length v (gt w v).length w),some (fA pre.length a (gt (gt w v) a).2.length (gt w v)),some (cl pC (gt (gt w v) a).2),some [.gv pre.length w.length (1,46)]])) (hq14 : ∀ suf : Hp,OkH suf → hp 14 [.agg [.gv 0 w.length (1,46)]] ([some (fV 0 v (gt w v).length w),some (fA 0 a (gt (gt w v) a).2.length (gt w v)),some (cl pC (gt (gt w v) a).2)] ++ suf) = some (sl pC (.own 7) (alW w),[some (fV 0 v (gt w v).length w),some (fA 0 a (gt (gt w v) a).2.length (gt w v)),some (cl pC (gt (gt w v) a).2)] ++ suf)) (h33 : ∀ (w : Wrk) (id : ID),WB w → pu 33 [.agg [sl vC .no w],.agg (iD id)] = some (.tup [.agg [.val (nI (fnd w id).1.1),.val (nI (fnd w id).1.2.1),.val (nI (fnd w id).1.2.2)],.val (.bool (fnd w id).2)])) (hq92 : ∀ suf : Hp,OkH suf → hp 92 [.agg [xF w v a (gt (gt w v) a).2.length],.agg [.val (nI v),.val (nI a),.val (nI j)],.val (.int .i64 (how.tdiv ((2 : Nat) : Int))),.val (.int .i64 (y.tdiv ((8 : Nat) : Int)))] ([some (cl pC (gt (gt w v) a).2)] ++ suf) = some (.agg [xF w v a (gt (gt w v) a).2.length],[some (cl pC ((gt (gt w v) a).2.set j (chgP (gt (gt (gt w v) a).2 j) (how.tdiv ((2 : Nat) : Int)) (y.tdiv ((8 : Nat) : Int)))))] ++ suf)) (h19 : ∀ (n : Int) (m : Nat),-9223372036854775808 ≤ n ∧ n ≤ 9223372036854775807 ∧ 0 < m ∧ m ≤ 9223372036854775807 → pu 19 [.val (.int .i64 n),.val (nI m)] = some (.val (nI (aroundI n m)))) : FC Tryd.prog gl 51 [.agg [sl vC .no w],.val (.int .i64 how),.val (.int .i64 y)] [] (.agg [sl vC .no (spW w how y)]) [] := by
 replace hcx := hcx.reN (M := 242)
 refine FC.ofA (cx := cxR gl 242 pu hp) (rs := [.cell 6 29]) rfl Tryd.func51 rfl rfl rfl (by simp only [List.length_cons,List.length_nil]; decide) (by simp only [go_sem]) ?_
 simp only [ini,go_sem]
 have hy := True.intro
 have hMO := @hMOR
 have hwl := hw.n
 have hal := hw.al
 have e20 := hq20 [some [sl vC .no w],some [.val (.slice none 0 0)],none] (OkH.cons rfl (OkH.cons rfl (OkH.cons rfl OkH.nil)))
 simp only [List.length_cons,List.length_nil,List.cons_append,List.nil_append,Nat.zero_add,Nat.reduceAdd] at e20
 have e14 := hq14 [some [.val (.slice none 0 0)],some [.gv 0 w.length (1,46)]] (OkH.cons rfl (OkH.cons rfl OkH.nil))
 simp only [List.cons_append,List.nil_append] at e14
 have hay := around_lt y (m := (alW w).length) h0
 have p33 := h33 w (gt (alW w) (aroundI y (alW w).length)).1 hw.wb
 rw [hf] at p33
 have e33 := rdE_Find (cx := (cxR gl 242 pu hp).grow [1000033]) (a := a) hv rfl p33 rfl
 have e92 := hq92 [some [.val (.slice none 0 0)],some [xF w v a (gt (gt w v) a).2.length],some [.val (nI v),.val (nI a),.val (nI j)]] (OkH.cons rfl (OkH.cons rfl (OkH.cons rfl OkH.nil)))
 simp only [List.cons_append,List.nil_append] at e92
 have hS : spW w how y = setL w v a ((gt (gt w v) a).2.set j (chgP (gt (gt (gt w v) a).2 j) (how.tdiv ((2 : Nat) : Int)) (y.tdiv ((8 : Nat) : Int)))) := by unfold spW; rw [if_pos ⟨h0,h1⟩,hf]
 refine Tr.w hcx [] _ [none,none] rfl rfl rfl ?_ X_fc51A
 refine Tr.w hcx [] _ [none] rfl rfl rfl ?_ X_fc51A
 refine Tr.k [1,2,6,7] ?_
 refine Tr.m1 hcx [3,4,5,1,2] ?_
 simp only [mv_fV2 (ρ := [3,4,5,1,2]) (n := 3) (k := 0) (fun _ => rfl),mv_fA2 (ρ := [3,4,5,1,2]) (n := 3) (k := 0) (fun _ => rfl)]
 refine Tr.w hcx [1000018] _ [] rfl rfl rfl ?_ X_fc51A
 refine Tr.seqK fun K1 hK1 => ?_
 refine Tr.w hcx [] [some 19,some 20,some 21,some 22,some 23,some 24,some 25,some 26] [] rfl rfl rfl ?_ X_fc51A
 refine Tr.cT rfl ?_
 refine Tr.f1 hcx 1 (fA 0 a (gt (gt w v) a).2.length (gt w v)) ?_
 refine Tr.f1 hcx 0 ((cl vC w).set v (.sl .no (gt w v).length (fA 0 a (gt (gt w v) a).2.length (gt w v)))) ?_
 refine Tr.k [1,2,6,7,8] ?_
 refine Tr.m1 hcx [2,3,4] ?_
 simp only [mv_x]
 refine Tr.wDG hcx hMO [1000033] [1000039] _ [none] rfl rfl rfl rfl ?_ Y_fc51A
 refine Tr.k [1,2,6,7,9] ?_
 refine Tr.w hcx [] _ [] rfl rfl rfl ?_ X_fc51A
 refine Tr.f1 hcx 0 (cl pC ((gt (gt w v) a).2.set j (chgP (gt (gt (gt w v) a).2 j) (how.tdiv ((2 : Nat) : Int)) (y.tdiv ((8 : Nat) : Int))))) ?_
 exact Tr.ret F_fc51A
end Go.Sx
