/-
   And what follows.
-/
import Derived.Test.YtcpdlhgkdogdjaaDoorPal
set_option linter.unusedSimpArgs false
set_option linter.unusedVariables false
namespace Go.Sx
open Go.RowKit
theorem loc_range' (n : Nat) : ∀ (k s b : Nat),loc (List.range' n k) s b = if n ≤ b ∧ b < n + k then some (s + (b - n)) else none
  | 0,s,b => by
    rw [if_neg (by omega)]; rfl
  | k + 1,s,b => by
    rw [List.range'_succ]
    simp only [loc]
    by_cases h : b = n
    · rw [if_pos h,if_pos (by omega)]; congr 1; omega
    · rw [if_neg h,loc_range' (n + 1) k (s + 1) b]
      by_cases h2 : n ≤ b ∧ b < n + (k + 1)
      · rw [if_pos (by omega),if_pos h2]; congr 1; omega
      · rw [if_neg (by omega),if_neg h2]
section
variable {n k : Nat}
theorem loc_sh {b : Nat} (h : b < k) : loc (List.range' n k) 0 (n + b) = some b := by
  rw [loc_range',if_pos (by omega)]; congr 1; omega
mutual
theorem mv_bk : ∀ c : C,noRef k c = true → mvC (List.range' n k) (bkC (n + ·) c) = c
  | .top,_ => by simp only [bkC,mvC]
  | .val v,_ => by simp only [bkC,mvC]
  | .sv b o m,h => by simp only [noRef,decide_eq_true_eq] at h; simp only [bkC,mvC,loc_sh h]
  | .gv b m s,h => by simp only [noRef,decide_eq_true_eq] at h; simp only [bkC,mvC,loc_sh h]
  | .bp b o,h => by simp only [noRef,decide_eq_true_eq] at h; simp only [bkC,mvC,loc_sh h]
  | .mp b,h => by simp only [noRef,decide_eq_true_eq] at h; simp only [bkC,mvC,loc_sh h]
  | .bt b t m,h => by simp only [noRef,decide_eq_true_eq] at h; simp only [bkC,mvC,loc_sh h]
  | .sl r m xs,h => by simp only [noRef] at h; simp only [bkC,mvC,mv_bks xs h]
  | .kp xs,h => by simp only [noRef] at h; simp only [bkC,mvC,mv_bks xs h]
  | .agg xs,h => by simp only [noRef] at h; simp only [bkC,mvC,mv_bks xs h]
  | .tup xs,h => by simp only [noRef] at h; simp only [bkC,mvC,mv_bks xs h]
  | .fn f xs,h => by simp only [noRef] at h; simp only [bkC,mvC,mv_bks xs h]
theorem mv_bks : ∀ l : List C,noRefs k l = true → mvCs (List.range' n k) (bkCs (n + ·) l) = l
  | [],_ => by simp only [bkCs,mvCs]
  | x :: l,h => by
    simp only [noRefs,Bool.and_eq_true] at h
    simp only [bkCs,mvCs,mv_bk x h.1,mv_bks l h.2]
end
end
def shH (n : Nat) (h : Hp) : Hp := h.map (Option.map (bkCs (n + ·)))
def okBox (o : Option (List C)) : Bool := (liveC o).isSome || (mpL o).isSome || o.isNone
theorem live_bk {r : Nat → Nat} {o : Option (List C)} (h : (liveC o).isSome = true) : (liveC (o.map (bkCs r))).isSome = true := by
  cases o with
  | none => exact h
  | some cells =>
    cases cells with
    | nil => rfl
    | cons c l => cases c <;> first | rfl | (simp only [liveC] at h; cases h)
theorem mp_bk {r : Nat → Nat} {o : Option (List C)} (h : (mpL o).isSome = true) : (mpL (o.map (bkCs r))).isSome = true := by
  obtain ⟨l,hl⟩ := Option.isSome_iff_exists.1 h
  unfold mpL at hl
  split at hl
  · cases hl; rfl
  · cases hl
theorem FC.pre {P : Program} {gl : Nat → C} {f : Nat} {args : List C} {c : C} {X h' : Hp} (hf : FC P gl f args X c h') (pre : Hp) (hpre : ∀ o ∈ pre,okBox o = true) (hX : ∀ o ∈ X,((liveC o).isSome || (mpL o).isSome) = true)
    (hn : noRefs X.length args = true) (hnX : ∀ o ∈ X,∀ cells,o = some cells → noRefs X.length cells = true) (hk : X.length ≤ h'.length) (hg : ∀ g,noRef 0 (gl g) = true) :
    FC P gl f (bkCs (pre.length + ·) args) (pre ++ shH pre.length X) (bkC (pre.length + ·) c) (pre ++ shH pre.length h') := by
  have hρl : (List.range' pre.length X.length).length = X.length := by simp
  have hHl : (pre ++ shH pre.length X).length = pre.length + X.length := by simp [shH]
  have hget : ∀ i,(pre ++ shH pre.length X)[pre.length + i]? = (X[i]?).map (Option.map (bkCs (pre.length + ·))) := fun i => by
    rw [List.getElem?_append_right (by omega)]
    unfold shH
    rw [List.getElem?_map,show pre.length + i - pre.length = i by omega]
  have hmv : mvH (List.range' pre.length X.length) (pre ++ shH pre.length X) = X := by
    unfold mvH
    apply List.ext_getElem?
    intro i
    rw [List.getElem?_map]
    by_cases hi : i < X.length
    · rw [List.getElem?_range' hi,Option.map_some,Nat.one_mul,hget]
      rw [List.getElem?_eq_getElem hi]
      simp only [Option.map_some,Option.getD_some]
      congr 1
      cases hx : X[i] with
      | none => rfl
      | some cells =>
        simp only [Option.map_some]
        congr 1
        exact mv_bks cells (hnX _ (List.getElem_mem hi) cells hx)
    · rw [List.getElem?_eq_none (by rw [hρl]; omega),List.getElem?_eq_none (by omega)]; rfl
  have hR : bkR (List.range' pre.length X.length) (pre ++ shH pre.length X).length = (pre.length + ·) := by
    funext i
    unfold bkR
    by_cases hi : i < X.length
    · rw [List.getElem?_range' hi]; simp
    · rw [List.getElem?_eq_none (by rw [hρl]; omega)]
      simp only [hρl,hHl]
      omega
  have := FC.frameH (P := P) (gl := gl) (f := f) (args := bkCs (pre.length + ·) args) (c := c) (H := pre ++ shH pre.length X) (h' := h') (List.range' pre.length X.length) List.nodup_range' (fun b hb => by
      obtain ⟨h1,h2⟩ := List.mem_range'_1.1 hb
      obtain ⟨i,rfl⟩ : ∃ i,b = pre.length + i := ⟨b - pre.length,by omega⟩
      have hi : i < X.length := by omega
      have h3 := hX _ (List.getElem_mem hi)
      simp only [Bool.or_eq_true] at h3
      unfold Hp.at Hp.mp
      rw [hget,List.getElem?_eq_getElem hi]
      exact h3.imp (fun h => live_bk h) (fun h => mp_bk h))
    (fun b hb hnb => by
      rw [hHl] at hb
      have hlt : b < pre.length := by
        rcases Nat.lt_or_ge b pre.length with h | h
        · exact h
        · exact (hnb (List.mem_range'_1.2 ⟨h,by omega⟩)).elim
      have h3 := hpre _ (List.getElem_mem hlt)
      unfold Hp.at Hp.mp
      rw [List.getElem?_append_left hlt,List.getElem?_eq_getElem hlt]
      simp only [okBox,Bool.or_eq_true] at h3
      rcases h3 with (h | h) | h
      · exact .inl h
      · exact .inr (.inl h)
      · exact .inr (.inr (by congr 1; exact Option.isNone_iff_eq_none.1 h)))
    (by rw [hmv,mv_bks args hn]; exact hf) hg
  rw [hR] at this
  have hH : bkH (List.range' pre.length X.length) (pre ++ shH pre.length X) h' = pre ++ shH pre.length h' := by
    have hS : bkH (List.range' pre.length X.length) (pre ++ shH pre.length X) h' = ((List.range (pre.length + X.length)).map fun b => match loc (List.range' pre.length X.length) 0 b with
      | some i => ((h'[i]?).getD none).map (bkCs (pre.length + ·))
      | none => ((pre ++ shH pre.length X)[b]?).getD none) ++ (h'.drop X.length).map (Option.map (bkCs (pre.length + ·))) := by
      unfold bkH; rw [hR,hHl,hρl] <;> rfl
    rw [hS,List.range_add,List.map_append,List.append_assoc]
    congr 1
    · apply List.ext_getElem?
      intro i
      rw [List.getElem?_map]
      by_cases hi : i < pre.length
      · rw [List.getElem?_range hi,Option.map_some,loc_range',if_neg (by omega)]
        simp only []
        rw [List.getElem?_append_left hi,List.getElem?_eq_getElem hi]; rfl
      · rw [List.getElem?_eq_none (by simp; omega),List.getElem?_eq_none (by omega)]; rfl
    · unfold shH
      rw [List.map_map]
      conv => rhs; rw [← List.take_append_drop X.length h',List.map_append]
      congr 1
      apply List.ext_getElem?
      intro i
      rw [List.getElem?_map,List.getElem?_map,List.getElem?_take]
      by_cases hi : i < X.length
      · rw [List.getElem?_range hi,if_pos hi,List.getElem?_eq_getElem (by omega)]
        simp only [Option.map_some,Function.comp,loc_sh hi]
        rw [List.getElem?_eq_getElem (by omega)]; rfl
      · rw [List.getElem?_eq_none (by simp; omega),if_neg hi]; rfl
  rw [hH] at this
  exact this
end Go.Sx
namespace Go.Sx
open Go.RowKit
end Go.Sx
namespace Go.Sx
open Go.RowKit
def midR (n k s : Nat) (i : Nat) : Nat := if i < k then n + i else n + s + i
theorem FC.mid {P : Program} {gl : Nat → C} {f : Nat} {args : List C} {c : C} {X h' : Hp} (hf : FC P gl f args X c h') (pre suf : Hp) (hpre : ∀ o ∈ pre,okBox o = true) (hsuf : ∀ o ∈ suf,okBox o = true) (hX : ∀ o ∈ X,((liveC o).isSome || (mpL o).isSome) = true)
    (hn : noRefs X.length args = true) (hnX : ∀ o ∈ X,∀ cells,o = some cells → noRefs X.length cells = true) (hk : X.length ≤ h'.length) (hg : ∀ g,noRef 0 (gl g) = true) :
    FC P gl f (bkCs (pre.length + ·) args) (pre ++ (shH pre.length X ++ suf)) (bkC (midR pre.length X.length suf.length) c)
      (pre ++ ((h'.take X.length).map (Option.map (bkCs (midR pre.length X.length suf.length))) ++ (suf ++ (h'.drop X.length).map (Option.map (bkCs (midR pre.length X.length suf.length)))))) := by
  have hρl : (List.range' pre.length X.length).length = X.length := by simp
  have hHl : (pre ++ (shH pre.length X ++ suf)).length = pre.length + (X.length + suf.length) := by simp [shH]
  have hget : ∀ i,i < X.length → (pre ++ (shH pre.length X ++ suf))[pre.length + i]? = (X[i]?).map (Option.map (bkCs (pre.length + ·))) := fun i hi => by
    rw [List.getElem?_append_right (by omega),show pre.length + i - pre.length = i by omega,List.getElem?_append_left (by simp [shH]; omega)]
    unfold shH
    rw [List.getElem?_map]
  have hmv : mvH (List.range' pre.length X.length) (pre ++ (shH pre.length X ++ suf)) = X := by
    unfold mvH
    apply List.ext_getElem?
    intro i
    rw [List.getElem?_map]
    by_cases hi : i < X.length
    · rw [List.getElem?_range' hi,Option.map_some,Nat.one_mul,hget i hi]
      rw [List.getElem?_eq_getElem hi]
      simp only [Option.map_some,Option.getD_some]
      congr 1
      cases hx : X[i] with
      | none => rfl
      | some cells =>
        simp only [Option.map_some]
        congr 1
        exact mv_bks cells (hnX _ (List.getElem_mem hi) cells hx)
    · rw [List.getElem?_eq_none (by rw [hρl]; omega),List.getElem?_eq_none (by omega)]; rfl
  have hR : bkR (List.range' pre.length X.length) (pre ++ (shH pre.length X ++ suf)).length = midR pre.length X.length suf.length := by
    funext i
    unfold bkR midR
    by_cases hi : i < X.length
    · rw [List.getElem?_range' hi,if_pos hi]; simp
    · rw [List.getElem?_eq_none (by rw [hρl]; omega),if_neg hi]
      simp only [hρl,hHl]
      omega
  have := FC.frameH (P := P) (gl := gl) (f := f) (args := bkCs (pre.length + ·) args) (c := c) (H := pre ++ (shH pre.length X ++ suf)) (h' := h') (List.range' pre.length X.length) List.nodup_range' (fun b hb => by
      obtain ⟨h1,h2⟩ := List.mem_range'_1.1 hb
      obtain ⟨i,rfl⟩ : ∃ i,b = pre.length + i := ⟨b - pre.length,by omega⟩
      have hi : i < X.length := by omega
      have h3 := hX _ (List.getElem_mem hi)
      simp only [Bool.or_eq_true] at h3
      unfold Hp.at Hp.mp
      rw [hget i hi,List.getElem?_eq_getElem hi]
      exact h3.imp (fun h => live_bk h) (fun h => mp_bk h))
    (fun b hb hnb => by
      rw [hHl] at hb
      have key : ∃ o,(pre ++ (shH pre.length X ++ suf))[b]? = some o ∧ okBox o = true := by
        rcases Nat.lt_or_ge b pre.length with h | h
        · exact ⟨_,by rw [List.getElem?_append_left h,List.getElem?_eq_getElem h],hpre _ (List.getElem_mem h)⟩
        · have h2 : pre.length + X.length ≤ b := by
            rcases Nat.lt_or_ge b (pre.length + X.length) with h2 | h2
            · exact (hnb (List.mem_range'_1.2 ⟨h,h2⟩)).elim
            · exact h2
          have h3 : b - pre.length - X.length < suf.length := by omega
          refine ⟨suf[b - pre.length - X.length],?_,hsuf _ (List.getElem_mem h3)⟩
          rw [List.getElem?_append_right h,List.getElem?_append_right (by simp [shH]; omega)]
          rw [show (shH pre.length X).length = X.length by simp [shH],List.getElem?_eq_getElem h3]
      obtain ⟨o,ho,h3⟩ := key
      unfold Hp.at Hp.mp
      rw [ho]
      simp only [okBox,Bool.or_eq_true] at h3
      rcases h3 with (h | h) | h
      · exact .inl h
      · exact .inr (.inl h)
      · exact .inr (.inr (by congr 1; exact Option.isNone_iff_eq_none.1 h)))
    (by rw [hmv,mv_bks args hn]; exact hf) hg
  rw [hR] at this
  have hH : bkH (List.range' pre.length X.length) (pre ++ (shH pre.length X ++ suf)) h' = pre ++ ((h'.take X.length).map (Option.map (bkCs (midR pre.length X.length suf.length))) ++ (suf ++ (h'.drop X.length).map (Option.map (bkCs (midR pre.length X.length suf.length))))) := by
    have hS : bkH (List.range' pre.length X.length) (pre ++ (shH pre.length X ++ suf)) h' = ((List.range (pre.length + (X.length + suf.length))).map fun b => match loc (List.range' pre.length X.length) 0 b with
      | some i => ((h'[i]?).getD none).map (bkCs (midR pre.length X.length suf.length))
      | none => ((pre ++ (shH pre.length X ++ suf))[b]?).getD none) ++ (h'.drop X.length).map (Option.map (bkCs (midR pre.length X.length suf.length))) := by
      unfold bkH; rw [hR,hHl,hρl] <;> rfl
    rw [hS,List.range_add,List.range_add,List.map_append,List.map_append,List.map_append,List.append_assoc,List.append_assoc]
    congr 1
    · apply List.ext_getElem?
      intro i
      rw [List.getElem?_map]
      by_cases hi : i < pre.length
      · rw [List.getElem?_range hi,Option.map_some,loc_range',if_neg (by omega)]
        simp only []
        rw [List.getElem?_append_left hi,List.getElem?_eq_getElem hi]; rfl
      · rw [List.getElem?_eq_none (by simp; omega),List.getElem?_eq_none (by omega)]; rfl
    · congr 1
      · apply List.ext_getElem?
        intro i
        rw [List.map_map,List.getElem?_map,List.getElem?_map,List.getElem?_take]
        by_cases hi : i < X.length
        · rw [List.getElem?_range hi,if_pos hi,List.getElem?_eq_getElem (by omega)]
          simp only [Option.map_some,Function.comp,loc_sh hi]
          rw [List.getElem?_eq_getElem (by omega)]; rfl
        · rw [List.getElem?_eq_none (by simp; omega),if_neg hi]; rfl
      · congr 1
        apply List.ext_getElem?
        intro i
        rw [List.map_map,List.map_map,List.getElem?_map]
        by_cases hi : i < suf.length
        · rw [List.getElem?_range hi]
          simp only [Option.map_some,Function.comp]
          rw [loc_range',if_neg (by omega)]
          simp only []
          rw [List.getElem?_append_right (by omega),List.getElem?_append_right (by simp [shH] <;> omega)]
          rw [show pre.length + (X.length + i) - pre.length - (shH pre.length X).length = i by simp [shH] <;> omega,List.getElem?_eq_getElem hi]; rfl
        · rw [List.getElem?_eq_none (by simp; omega),List.getElem?_eq_none (by omega)]; rfl
  rw [hH] at this
  exact this
end Go.Sx
namespace Go.Sx
open Go.RowKit
def EndsT (cx : Cx) (rs : List ResultVar) (c : C) (k : Nat) (h' : Hp) : Ex → St → Prop
  | .exit _,_ => False
  | _,st => resL cx st rs = some c ∧ st.h.take k = h'
theorem EndsT_r (cx : Cx) (rs : List ResultVar) (c : C) (k : Nat) (h' : Hp) (st : St) : EndsT cx rs c k h' .ret st = (resL cx st rs = some c ∧ st.h.take k = h') := rfl
def nrH (k : Nat) : Hp → Bool
  | [] => true
  | none :: l => nrH k l
  | some cells :: l => noRefs k cells && nrH k l
theorem nrH_get (k : Nat) : ∀ (h : Hp),nrH k h = true → ∀ (b : Nat) (cells : List C),h[b]? = some (some cells) → noRefs k cells = true
  | [],_,b,cells,hb => by simp at hb
  | o :: l,h,0,cells,hb => by
    simp at hb; subst hb
    simp only [nrH,Bool.and_eq_true] at h; exact h.1
  | o :: l,h,b + 1,cells,hb => by
    refine nrH_get k l ?_ b cells (by simpa using hb)
    cases o with
    | none => exact h
    | some c => simp only [nrH,Bool.and_eq_true] at h; exact h.2
theorem nrH_nil (k : Nat) : nrH k [] = true := rfl
theorem nrH_some (k : Nat) (cells : List C) (l : Hp) : nrH k (some cells :: l) = (noRefs k cells && nrH k l) := rfl
theorem nrH_mem {k : Nat} {h : Hp} (hh : nrH k h = true) : ∀ o ∈ h,∀ cells,o = some cells → noRefs k cells = true := fun o ho cells e => by
  subst e
  obtain ⟨b,hb⟩ := List.getElem?_of_mem ho
  exact nrH_get k h hh b cells hb
theorem FC.ofT {cx : Cx} {f : Nat} {fn : Func} {code : Code} {args : List C} {h h' : Hp} {c : C} {rs : List ResultVar} (hN : cx.N = fn.ntmps) (hf : cx.P.funcs[f]? = some fn) (hn : (fn.name == "runtime.NumGoroutine") = false) (hb : fn.body = some code)
    (hrs : fn.results = rs.toArray) (hlen : args.length ≤ fn.ntmps) (hc : noRef h.length c = true) (hh : nrH h.length h' = true) (hT : Tr cx h.length code ⟨A (ini 0 args),h⟩ (EndsT cx rs c h.length h')) : FC cx.P cx.gl f args h c h' := by
  refine FC.of hN hf hn hb hlen ?_
  refine Tr.weaken (fun t => CLe.init args t) (hT.mono fun x st q => ?_)
  have key : resL cx st rs = some c ∧ st.h.take h.length = h' → results cx fn st = some c ∧ ((st.h.take h.length = h' ∧ noRef h.length c = true ∧ ∀ (b : Nat) cells,b < h.length → st.h[b]? = some (some cells) → noRefs h.length cells = true) ∨ st.h = h') := fun q => by
    refine ⟨?_,.inl ⟨q.2,hc,fun b cells hb hx => nrH_get _ _ hh b cells ?_⟩⟩
    · rw [← q.1]
      unfold results
      rw [hrs]
      rcases rs with _ | ⟨r,_ | ⟨r2,rs⟩⟩ <;> rfl
    · rw [← q.2,List.getElem?_take,if_pos hb]; exact hx
  cases x with
  | exit k => exact q
  | normal => exact key q
  | ret => exact key q
attribute [go_sem] EndsT_r nrH_nil nrH_some
end Go.Sx
namespace Go.Sx
open Go.RowKit
section
variable {cx : Cx} {n : Nat} {st : St} {Q : Ex → St → Prop} {G : Gh} {w : World} {h : Hp} {b : Nat} {cells : List C}
mutual
theorem fzC_repY (H : WorldOK G h w) (hb : h.at b = some cells) {ys : List C} (hys : ∀ blk,G.μ b = some blk → RepK (fzG G w b cells.length) blk 0 ys) : ∀ (c : C) (v : Value),Rep G c v → Rep (fzG G w b cells.length) (fzC (okF h b) b ys c) v
  | .top,_,_ => by simp [fzC,Rep]
  | .val u,v,r => by simpa [fzC,Rep] using r
  | .sl r n xs,v,x => by
    simp only [fzC,Rep] at x ⊢
    obtain ⟨a,cap,h1,h2,h3,h4,h5⟩ := x
    refine ⟨a,cap,h1,h2,h3,h4,?_⟩
    rcases h5 with h5 | ⟨blk,off,ha,hk⟩
    · left; rw [h5]; rfl
    · exact .inr ⟨blk,off,ha,fzC_repKY H hb hys xs blk off hk⟩
  | .sv b' off n,v,x => by
    simp only [fzC]
    split
    · rename_i e
      subst e
      split
      · rename_i hle
        simp only [Rep] at x ⊢
        obtain ⟨a,cap,h1,h2,h3,h4⟩ := x
        refine ⟨a,cap,h1,h2,h3,by simp,?_⟩
        by_cases hn : n = 0
        · left; subst hn; simp
        · right
          obtain ⟨blk,q1,q2⟩ := h4 hn
          refine ⟨blk,off,q2,?_⟩
          have := (hys _ q1).drop off
          rw [Nat.zero_add] at this
          exact this.take n
      · simp [Rep]
    · split
      · rename_i hok
        simp only [Rep] at x ⊢
        obtain ⟨a,cap,h1,h2,h3,h4⟩ := x
        exact ⟨a,cap,h1,h2,h3,fun hz => by obtain ⟨blk,q1,q2⟩ := h4 hz; exact ⟨blk,fz_μ H hb hok q1,q2⟩⟩
      · simp [Rep]
  | .gv b' m s,v,x => by
    simp only [fzC]
    split
    · rename_i e
      subst e
      split
      · rename_i hle
        simp only [Rep] at x ⊢
        obtain ⟨a,cap,h1,h2,h3,h4⟩ := x
        refine ⟨a,cap,h1,h2,h3,by simp,?_⟩
        rcases h4 with ⟨rfl,_⟩ | ⟨blk,q1,q2,q3⟩
        · left; simp
        · right
          exact ⟨blk,0,q2,(hys _ q1).take _⟩
      · simp [Rep]
    · split
      · rename_i hok
        simp only [Rep] at x ⊢
        obtain ⟨a,cap,h1,h2,h3,h4⟩ := x
        refine ⟨a,cap,h1,h2,h3,?_⟩
        rcases h4 with h4 | ⟨blk,q1,q2,q3⟩
        · exact .inl h4
        · exact .inr ⟨blk,fz_μ H hb hok q1,q2,fz_σ H hb hok q3⟩
      · simp [Rep]
  | .mp b',v,x => by
    simp only [fzC]
    split
    · simp [Rep]
    · split
      · rename_i hok
        simp only [Rep] at x ⊢
        obtain ⟨blk,h1,h2⟩ := x
        exact ⟨blk,fz_μ H hb hok h1,h2⟩
      · simp [Rep]
  | .bt b' t n,v,x => by
    simp only [fzC]
    split
    · simp [Rep]
    · split
      · rename_i hok
        simp only [Rep] at x ⊢
        obtain ⟨blk,h1,h2,h3⟩ := x
        exact ⟨blk,fz_μ H hb hok h1,h2,fz_σ H hb hok h3⟩
      · simp [Rep]
  | .bp b' off,v,x => by
    simp only [fzC]
    split
    · rename_i e
      subst e
      simp only [Rep] at x ⊢
      obtain ⟨blk,h1,h2⟩ := x
      refine ⟨blk,off,h2,?_⟩
      have := (hys _ h1).drop off
      rwa [Nat.zero_add] at this
    · split
      · rename_i hok
        simp only [Rep] at x ⊢
        obtain ⟨blk,h1,h2⟩ := x
        exact ⟨blk,fz_μ H hb hok h1,h2⟩
      · simp [Rep]
  | .kp xs,v,x => by
    simp only [fzC,Rep] at x ⊢
    obtain ⟨blk,off,h1,h2⟩ := x
    exact ⟨blk,off,h1,fzC_repKY H hb hys xs blk off h2⟩
  | .agg xs,v,x => by
    simp only [fzC,Rep] at x ⊢
    obtain ⟨vs,h1,h2,h3⟩ := x
    exact ⟨vs,h1,fzC_repLY H hb hys xs _ h2,h3⟩
  | .tup xs,v,x => by
    simp only [fzC,Rep] at x ⊢
    obtain ⟨vs,h1,h2⟩ := x
    exact ⟨vs,h1,fzC_repLY H hb hys xs _ h2⟩
  | .fn f xs,v,x => by
    simp only [fzC,Rep] at x ⊢
    obtain ⟨vs,h1,h2⟩ := x
    exact ⟨vs,h1,fzC_repLY H hb hys xs _ h2⟩
theorem fzC_repLY (H : WorldOK G h w) (hb : h.at b = some cells) {ys : List C} (hys : ∀ blk,G.μ b = some blk → RepK (fzG G w b cells.length) blk 0 ys) : ∀ (xs : List C) (vs : List Value),RepL G xs vs → RepL (fzG G w b cells.length) (fzCs (okF h b) b ys xs) vs
  | [],vs,r => by simpa [fzCs,RepL] using r
  | x :: xs,vs,r => by
    simp only [fzCs,RepL] at r ⊢
    obtain ⟨v,vs',h1,h2,h3⟩ := r
    exact ⟨v,vs',h1,fzC_repY H hb hys x v h2,fzC_repLY H hb hys xs vs' h3⟩
theorem fzC_repKY (H : WorldOK G h w) (hb : h.at b = some cells) {ys : List C} (hys : ∀ blk,G.μ b = some blk → RepK (fzG G w b cells.length) blk 0 ys) : ∀ (xs : List C) (blk off : Nat),RepK G blk off xs → RepK (fzG G w b cells.length) blk off (fzCs (okF h b) b ys xs)
  | [],_,_,_ => by simp [fzCs,RepK]
  | x :: xs,blk,off,r => by
    simp only [fzCs,RepK] at r ⊢
    obtain ⟨⟨u,h1,h2,h3⟩,h4⟩ := r
    exact ⟨⟨u,(fz_le H _).K _ _ _ h1,h2,fzC_repY H hb hys x u h3⟩,fzC_repKY H hb hys xs blk (off + 1) h4⟩
end
theorem fzC_mrepY (H : WorldOK G h w) (hb : h.at b = some cells) {ys : List C} (hys : ∀ blk,G.μ b = some blk → RepK (fzG G w b cells.length) blk 0 ys) : ∀ (l : List C) (es : List MapEntry),MRep G l es → MRep (fzG G w b cells.length) (fzCs (okF h b) b ys l) es
  | [],_,r => by simpa [MRep,fzCs] using r
  | [_],_,r => by simp [MRep] at r
  | k :: v :: l,es,r => by
    simp only [MRep,fzCs] at r ⊢
    obtain ⟨e,es',h1,h2,h3,h4⟩ := r
    exact ⟨e,es',h1,fzC_repY H hb hys k _ h2,fzC_repY H hb hys v _ h3,fzC_mrepY H hb hys l es' h4⟩
theorem WorldOK.fzY (H : WorldOK G h w) (hb : h.at b = some cells) {ys : List C} (hys : ∀ blk,G.μ b = some blk → RepK (fzG G w b cells.length) blk 0 ys) : WorldOK (fzG G w b cells.length) (fzH (okF h b) b ys h) w := by
  have hlen := Hp.at_lt hb
  have hμ : ∀ {j blk},(fzG G w b cells.length).μ j = some blk → G.μ j = some blk ∧ j ≠ b ∧ G.μ b ≠ some blk := fun {j blk} x => by
    simp only [fzG] at x
    split at x
    · cases x
    · rename_i hne
      refine ⟨x,fun e => hne (.inl e),fun e => hne (.inr ⟨blk,e,x⟩)⟩
  refine ⟨fun blk off u hk => ?_,fun j c' hj => ?_,fun j blk hm => ?_,fun j j' c c' blk hj hj' hm hm' => ?_,fun j blk hm => ?_,H.tlt,fun j c' off s m xs blk v hj hc hm hv => ?_,fun j z hz => ?_,fun j l hj => ?_,fun j j' l l' blk x x' y y' => ?_⟩
  · simp only [fzG] at hk
    split at hk
    · exact hk
    · exact H.known blk off u hk
  · obtain ⟨hne,c0,h2,rfl⟩ := fzH_at hb hj
    have hok : okF h b j = true := by simp [okF,h2,hne]
    rcases H.box j c0 h2 with ⟨hE,hE2⟩ | ⟨blk,cs,e,q1,q2,q3,q4,q5⟩
    · refine .inl ⟨by rw [hE]; rfl,?_⟩
      simp only [fzG]
      split
      · rfl
      · exact hE2
    · have hl : (fzCs (okF h b) b ys c0).length = c0.length := by rw [fzCs_map]; simp
      exact .inr ⟨blk,cs,e,fz_μ H hb hok q1,q2,by rw [hl]; exact q3,by rw [hl]; exact fzC_repLY H hb hys _ _ q4,q5⟩
  · obtain ⟨h1,h2,h3⟩ := hμ hm
    obtain ⟨⟨c,hc⟩,hl⟩ := H.dom j blk h1
    refine ⟨⟨fzCs (okF h b) b ys c,?_⟩,hl⟩
    unfold fzH
    rw [List.getElem?_set,if_neg (Ne.symm h2),List.getElem?_map,hc]; rfl
  · obtain ⟨h1,_,_⟩ := hμ hm
    obtain ⟨h1',_,_⟩ := hμ hm'
    obtain ⟨_,c0,g2,_⟩ := fzH_at hb hj
    obtain ⟨_,c0',g2',_⟩ := fzH_at hb hj'
    exact H.inj j j' _ _ blk g2 g2' h1 h1'
  · obtain ⟨h1,h2,h3⟩ := hμ hm
    obtain ⟨s1,s2⟩ := H.sep j blk h1
    refine ⟨fun o => ?_,s2⟩
    simp only [fzG]
    rw [if_neg (fun x => h3 x.1)]
    exact s1 o
  · obtain ⟨h1,_,_⟩ := hμ hm
    obtain ⟨_,c0,g2,rfl⟩ := fzH_at hb hj
    rw [fzCs_map,List.getElem?_map] at hc
    cases hq : c0[off]? with
    | none => rw [hq] at hc; cases hc
    | some y =>
      rw [hq] at hc
      simp only [Option.map_some,Option.some.injEq] at hc
      obtain ⟨zs,rfl⟩ := fzC_own hc
      exact (H.own j c0 off s m zs blk v g2 hq h1 hv).fz
  · simp only [fzG] at hz ⊢
    split at hz
    · cases hz
    · rename_i hne
      obtain ⟨blk,cs,e,fr,q1,q2,q3⟩ := H.siz j z hz
      exact ⟨blk,cs,e,fr,by rw [if_neg hne]; exact q1,q2,q3⟩
  · obtain ⟨n1,l0,n2,rfl⟩ := fzH_mp hlen hj
    obtain ⟨blk,es,clk,q1,q2,q3⟩ := H.mpo j l0 n2
    have hok : okF h b j = true := by simp [okF,n2,n1]
    exact ⟨blk,es,clk,fz_μ H hb hok q1,q2,fzC_mrepY H hb hys l0 _ q3⟩
  · obtain ⟨n1,l0,n2,rfl⟩ := fzH_mp hlen x
    obtain ⟨n1',l0',n2',rfl⟩ := fzH_mp hlen x'
    exact H.mpi j j' _ _ blk n2 n2' (hμ y).1 (hμ y').1
end
end Go.Sx
namespace Go.Sx
theorem LM {p : Prop} (h : p := by (simp only [Le_nil,Le_cons,↓A_cons,CLe_refl,CLe_top,CLe_full,CLe_nil,CLe_own,and_true,true_and,mvH_eq,mvHa_nil,mvHa_cons,hget_0,hget_S,Option.map_some,Option.map_none,mvCs_cl,mvCs_f,mvCs_nil,mvCs_cons,mvC_val,mvC_top,mvC_sl,mvC_gv,mvC_sv,mvC_bp,mvC_agg,mvC_kp,mvGv_some,mvGv_none,mvSv_some,mvSv_none,mvBp_some,mvBp_none,loc_nil,loc_cons,↓reduceIte,Nat.reduceEqDiff,reduceCtorEq,Nat.reduceAdd,Nat.zero_add,Nat.one_ne_zero,Nat.zero_ne_one,mvC_fn,mvC_bt,mvBt_some,mvBt_none,mvC_mp,mvMp_some,mvMp_none]; all_goals (repeat' first | exact CLe.refl _ | exact True.intro | (with_reducible refine And.intro ?_ ?_)))) : p := h
end Go.Sx
namespace Go.Sx
open Go.RowKit
def atG (f : Nat) (pre : List C) : Nat → C
  | 0 => .top
  | d + 1 => .kp [.fn f (pre ++ [atG f pre d])]
theorem mvCs_app (ρ : List Nat) (x : C) : ∀ l : List C,mvCs ρ (l ++ [x]) = mvCs ρ l ++ [mvC ρ x]
  | [] => by simp [mvCs]
  | y :: l => by simp only [List.cons_append,mvCs,mvCs_app ρ x l]
theorem atG_mv (ρ : List Nat) (f : Nat) (pre : List C) : ∀ d,mvC ρ (atG f pre d) = atG f (mvCs ρ pre) d
  | 0 => by simp only [atG,mvC]
  | d + 1 => by simp only [atG,mvC,mvCs,mvCs_app,atG_mv ρ f pre d]
theorem fzCs_app (ok : Nat → Bool) (b : Nat) (ys : List C) (x : C) : ∀ l : List C,fzCs ok b ys (l ++ [x]) = fzCs ok b ys l ++ [fzC ok b ys x]
  | [] => by simp [fzCs]
  | y :: l => by simp only [List.cons_append,fzCs,fzCs_app ok b ys x l]
theorem atG_fz (ok : Nat → Bool) (b : Nat) (ys : List C) (f : Nat) (pre : List C) : ∀ d,fzC ok b ys (atG f pre d) = atG f (fzCs ok b ys pre) d
  | 0 => by simp only [atG,fzC]
  | d + 1 => by simp only [atG,fzC,fzCs,fzCs_app,atG_fz ok b ys f pre d]
section
variable (ok : Nat → Bool) (b : Nat) (ys : List C)
theorem fzC_sv (b' o n : Nat) : fzC ok b ys (.sv b' o n) = if b' = b then (if o + n ≤ ys.length then .sl .no n ((ys.drop o).take n) else .top) else if ok b' = true then .sv b' o n else .top := by simp only [fzC]
theorem fzC_bp (b' o : Nat) : fzC ok b ys (.bp b' o) = if b' = b then .kp (ys.drop o) else if ok b' = true then .bp b' o else .top := by simp only [fzC]
theorem fzC_mp (b' : Nat) : fzC ok b ys (.mp b') = if b' = b then .top else if ok b' = true then .mp b' else .top := by simp only [fzC]
theorem fzC_bt (b' t n : Nat) : fzC ok b ys (.bt b' t n) = if b' = b then .top else if ok b' = true then .bt b' t n else .top := by simp only [fzC]
theorem scr_sv (b o n : Nat) : scr ok (.sv b o n) = if ok b = true then .sv b o n else .top := by simp only [scr]
theorem scr_gv (b n : Nat) (s : Nat × Nat) : scr ok (.gv b n s) = if ok b = true then .gv b n s else .top := by simp only [scr]
theorem scr_bp (b o : Nat) : scr ok (.bp b o) = if ok b = true then .bp b o else .top := by simp only [scr]
theorem scr_mp (b : Nat) : scr ok (.mp b) = if ok b = true then .mp b else .top := by simp only [scr]
theorem scr_bt (b t n : Nat) : scr ok (.bt b t n) = if ok b = true then .bt b t n else .top := by simp only [scr]
theorem scr_kp (xs : List C) : scr ok (.kp xs) = .kp (scrs ok xs) := by simp only [scr]
theorem scr_agg (xs : List C) : scr ok (.agg xs) = .agg (scrs ok xs) := by simp only [scr]
theorem scr_fn (f : Nat) (xs : List C) : scr ok (.fn f xs) = .fn f (scrs ok xs) := by simp only [scr]
theorem scr_top : scr ok .top = .top := by simp only [scr]
theorem scr_val (v : Value) : scr ok (.val v) = .val v := by simp only [scr]
theorem scrs_nil : scrs ok [] = [] := by simp only [scrs]
theorem scrs_cons (x : C) (xs : List C) : scrs ok (x :: xs) = scr ok x :: scrs ok xs := by simp only [scrs]
theorem scrs_cl {α : Type} (f : α → List C) [h : Nrf f] (l : List α) : scrs ok (cl f l) = cl f l := scrs_nr ok _ (noRefs_cl f 0 l)
theorem scrs_f {α : Type} (f : α → List C) [h : Nrf f] (a : α) : scrs ok (f a) = f a := scrs_nr ok _ (h.nr 0 a)
theorem noR_f {α : Type} (f : α → List C) {s : Nat} [h : Cel f s] (a : α) : List.map C.noR (f a) = f a := h.clean a
theorem scr_sl {α : Type} (f : α → List C) [h : Nrf f] (r : Rt) (l : List α) : scr ok (sl f r l) = sl f r l := by unfold sl; simp only [scr,scrs_cl]
theorem fzH_eq (h : Hp) : fzH ok b ys h = (h.map fun o => o.map (fzCs ok b ys)).set b (some deadC) := rfl
theorem fzY_eq (h : Hp) (cells : List C) : fzY h b cells = (scrs (okF h b) cells).map C.noR := rfl
end
section
variable {cx : Cx} {Q : Ex → St → Prop} {e : List (Nat × C)} {h : Hp} {c : Code}
theorem Tr.f1 (hcx : CxOK cx) (b : Nat) (cells : List C) {e' : List (Nat × C)} {h' : Hp} (H : Tr cx 0 c ⟨A e',h'⟩ Q)
    (hb : h.at b = some cells := by simp only [go_sem])
    (E : ∀ K : List (Nat × C) → Hp → Prop,K e' h' → K (mapE (fzC (okF h b) b (fzY h b cells)) e) (fzH (okF h b) b (fzY h b cells) h) := by
      intro KZ hZ
      simp -implicitDefEqProofs only [go_sem,fzY_eq,fzY_cl,fzH_eq,mapE_nil,mapE_cons,fzC_val,fzC_top,fzC_agg,fzC_tup,fzC_kp,fzC_fn,fzC_sl,fzC_sv,fzC_bp,fzC_mp,fzC_bt,fzC_gv,fzCs_nil,fzCs_cons,fzCs_cl,scr_sv,scr_gv,scr_bp,scr_mp,scr_bt,scr_kp,scr_agg,scr_fn,scr_top,scr_val,scr_sl,scrs_nil,scrs_cons,scrs_cl,scrs_f,noR_f,fzCs_f,atG_fz,okF_eq,Option.isSome_some,Option.isSome_none,Nat.reduceBNe,Bool.true_and,Bool.and_true,Bool.false_and,Bool.true_or,Bool.false_or,↓reduceIte,Nat.reduceEqDiff,reduceCtorEq,Nat.zero_ne_one,Nat.one_ne_zero]
      with_reducible exact hZ) : Tr cx 0 c ⟨A e,h⟩ Q :=
  Tr.fzA hcx b cells hb (Nat.zero_le _) (fun j hj => absurd hj (Nat.not_lt_zero j)) (E (fun x y => Tr cx 0 c ⟨A x,y⟩ Q) H)
end
end Go.Sx
namespace Go.Sx
open Go.RowKit
def OkH (h : Hp) : Prop := ∀ o ∈ h,okBox o = true
structure Small (P : Program) (gl : Nat → C) (f : Nat) (α : Type) where
  k : Nat
  j : Nat
  args : α → List C
  X : α → Hp
  r : α → C
  Y : α → Hp
  k0 : 0 < k
  hk : ∀ a,(X a).length = k
  hy : ∀ a,(Y a).length = k
  al : ∀ a,∀ o ∈ X a,((liveC o).isSome || (mpL o).isSome) = true
  nr : ∀ a,noRefs k (args a) = true
  nx : ∀ a,nrH k (X a) = true
  at0 : ∀ a,∃ o,(args a)[j]? = some (.bp 0 o)
  inj : ∀ a b,args a = args b → X a = X b → r a = r b ∧ Y a = Y b
  fc : ∀ a,FC P gl f (args a) (X a) (r a) (Y a)
section
variable {P : Program} {gl : Nat → C} {f : Nat} {α : Type}
inductive SmD (α : Type) where
  | n (a : α) (pre suf : Hp) (h1 : OkH pre) (h2 : OkH suf)
  | e (xs : List C) (h : ∃ b o,C.bp b o ∈ xs)
end
theorem OkH.nil : OkH [] := fun o h => by cases h
theorem OkH.cons {o : Option (List C)} {h : Hp} (h1 : okBox o = true) (h2 : OkH h) : OkH (o :: h) := fun p hp => by
  rcases List.mem_cons.1 hp with rfl | hp
  · exact h1
  · exact h2 p hp
mutual
theorem bk_nr (r : Nat → Nat) : ∀ c : C,noRef 0 c = true → bkC r c = c
  | .val _,_ => by simp only [bkC]
  | .top,_ => by simp only [bkC]
  | .agg xs,h => by simp only [noRef] at h; simp only [bkC,bks_nr r xs h]
  | .tup xs,h => by simp only [noRef] at h; simp only [bkC,bks_nr r xs h]
  | .kp xs,h => by simp only [noRef] at h; simp only [bkC,bks_nr r xs h]
  | .sl _ _ xs,h => by simp only [noRef] at h; simp only [bkC,bks_nr r xs h]
  | .fn _ xs,h => by simp only [noRef] at h; simp only [bkC,bks_nr r xs h]
  | .sv _ _ _,h => by simp [noRef] at h
  | .gv _ _ _,h => by simp [noRef] at h
  | .bp _ _,h => by simp [noRef] at h
  | .bt _ _ _,h => by simp [noRef] at h
  | .mp _,h => by simp [noRef] at h
theorem bks_nr (r : Nat → Nat) : ∀ l : List C,noRefs 0 l = true → bkCs r l = l
  | [],_ => by simp only [bkCs]
  | x :: xs,h => by simp only [noRefs,Bool.and_eq_true] at h; simp only [bkCs,bk_nr r x h.1,bks_nr r xs h.2]
end
theorem bks_cl (r : Nat → Nat) {α : Type} (f : α → List C) [h : Nrf f] (l : List α) : bkCs r (cl f l) = cl f l := bks_nr r _ (noRefs_cl f 0 l)
end Go.Sx
namespace Go.Sx
open Go.RowKit
section
variable {cx : Cx} {Q : Ex → St → Prop} {e : List (Nat × C)} {h : Hp} {c : Code}
theorem Tr.m1 (hcx : CxOK cx) (ρ : List Nat) {e' : List (Nat × C)} {h' : Hp} (H : Tr cx 0 c ⟨A e',h'⟩ Q)
    (hρ : okρ 0 ρ := by exact ⟨by decide,by decide,fun j hj => absurd hj (Nat.not_lt_zero j)⟩)
    (E : ∀ K : List (Nat × C) → Hp → Prop,K e' h' → K (mapE (mvC ρ) e) (mvH ρ h) := by
      intro KZ hZ
      simp -implicitDefEqProofs only [mapE_nil,mapE_cons,atG_mv,mvH_eq,mvHa_nil,mvHa_cons,hget_0,hget_S,Option.map_some,Option.map_none,mvCs_cl,mvCs_f,mvCs_nil,mvCs_cons,mvC_val,mvC_top,mvC_sl,mvC_gv,mvC_sv,mvC_bp,mvC_agg,mvC_kp,mvGv_some,mvGv_none,mvSv_some,mvSv_none,mvBp_some,mvBp_none,loc_nil,loc_cons,↓reduceIte,Nat.reduceEqDiff,reduceCtorEq,Nat.reduceAdd,Nat.zero_add,Nat.one_ne_zero,Nat.zero_ne_one,mvC_fn,mvC_bt,mvBt_some,mvBt_none,mvC_mp,mvMp_some,mvMp_none]
      with_reducible exact hZ) : Tr cx 0 c ⟨A e,h⟩ Q :=
  Tr.mvA hcx ρ hρ (E (fun x y => Tr cx 0 c ⟨A x,y⟩ Q) H)
end
end Go.Sx
namespace Go.Sx
open Go.RowKit
end Go.Sx
namespace Go.Sx
open Go.RowKit
structure Rdy (l : Nat) (rec : LoopState → Option Code → Loop) (G : Gh) (w : World) (s : LoopState) (p : Option Code) : Prop where
  obj : w.heap[l]? = some (.loop (rec s p))
  T : G.T l = none
  μ : ∀ b,G.μ b ≠ some l
theorem Rdy.frmN {n l : Nat} {rec : LoopState → Option Code → Loop} {G G' : Gh} {w w' : World} {s : LoopState} {p : Option Code} (h : Rdy l rec G w s p) (F : FrmN n G w G' w') : Rdy l rec G' w' s p := by
  obtain ⟨a1,a2,a3,_⟩ := F.old l (Array.getElem?_eq_some_iff.1 h.obj).1 h.T h.μ
  exact ⟨a1.trans h.obj,a2,a3⟩
theorem Rdy.same {l : Nat} {rec : LoopState → Option Code → Loop} {G G' : Gh} {w : World} {s : LoopState} {p : Option Code} (h : Rdy l rec G w s p) (hT : ∀ g,G.T g = none → G'.T g = none) (hμ : ∀ g,(∀ b,G.μ b ≠ some g) → ∀ b,G'.μ b ≠ some g) : Rdy l rec G' w s p := ⟨h.obj,hT _ h.T,hμ _ h.μ⟩
structure FrmX (l n : Nat) (G₀ : Gh) (w₀ : World) (G : Gh) (w : World) : Prop where
  os : w.os = w₀.os
  tape : w.tape = w₀.tape
  output : w.output = w₀.output
  size : w₀.heap.size ≤ w.heap.size
  K : ∀ b o u,G₀.K b o = some u → G.K b o = some u
  μ : ∀ b k,b < n → G₀.μ b = some k → G.μ b = some k
  σ : ∀ b k,b < n → G₀.σ b = some k → G.σ b = some k
  old : ∀ g,g ≠ l → g < w₀.heap.size → G₀.T g = none → (∀ b,G₀.μ b ≠ some g) →
    w.heap[g]? = w₀.heap[g]? ∧ G.T g = none ∧ (∀ b,G.μ b ≠ some g) ∧ ∀ o,G.K g o = G₀.K g o
theorem FrmX.of {l n : Nat} {A B : Gh} {a b : World} (h : FrmN n A a B b) : FrmX l n A a B b := ⟨h.os,h.tape,h.output,h.size,h.K,h.μ,h.σ,fun g _ => h.old g⟩
theorem FrmX.trans {l n : Nat} {A B D : Gh} {a b d : World} (h : FrmX l n A a B b) (k : FrmX l n B b D d) : FrmX l n A a D d :=
  ⟨k.os.trans h.os,k.tape.trans h.tape,k.output.trans h.output,Nat.le_trans h.size k.size,fun b o u x => k.K b o u (h.K b o u x),fun b o hb x => k.μ b o hb (h.μ b o hb x),fun b o hb x => k.σ b o hb (h.σ b o hb x),fun g hl hg ht hm => by
    obtain ⟨a1,a2,a3,a4⟩ := h.old g hl hg ht hm
    obtain ⟨b1,b2,b3,b4⟩ := k.old g hl (Nat.lt_of_lt_of_le hg h.size) a2 a3
    exact ⟨b1.trans a1,b2,b3,fun o => (b4 o).trans (a4 o)⟩⟩
abbrev Ys := List C → Hp → (Option Code → Hp → Prop) → Prop
def stO (o : Option Code) : LoopState := if o.isNone then .ready else .done
structure Gle (n : Nat) (G₀ G : Gh) : Prop where
  K : ∀ b o u,G₀.K b o = some u → G.K b o = some u
  μ : ∀ b k,G₀.μ b = some k → b < n ∧ G.μ b = some k
  σ : ∀ b k,G₀.σ b = some k → b < n ∧ G.σ b = some k
theorem Gle.le {n : Nat} {A B : Gh} (h : Gle n A B) : A.Le B := ⟨h.K,fun b k x => (h.μ b k x).2,fun b k x => (h.σ b k x).2⟩
theorem Gle.frm {n : Nat} {A B D : Gh} {b d : World} (h : Gle n A B) (F : FrmN n B b D d) : Gle n A D :=
  ⟨fun b o u x => F.K b o u (h.K b o u x),fun b k x => ⟨(h.μ b k x).1,F.μ b k (h.μ b k x).1 (h.μ b k x).2⟩,fun b k x => ⟨(h.σ b k x).1,F.σ b k (h.σ b k x).1 (h.σ b k x).2⟩⟩
def YOK (P : Program) (gl : Nat → C) (l : Nat) (rec : LoopState → Option Code → Loop) (G₀ : Gh) (Y : Ys) : Prop :=
  ∀ az h post,Y az h post → ∀ (G : Gh) (w : World) (vs : Array Value),G₀.Le G → WorldOK G h w → (∀ g p,G.T g = some p → p.1 = 1) → (∀ g,Rep G (gl g) (.pointer (some ⟨g,0,none⟩))) → Rdy l rec G w .ready none → RepL G az vs.toList →
    ∃ fn tmps assign body,(Instr.yield l vs).run P w = .ok (.round l fn tmps assign body) w ∧ RoundIn Fence.wide 0 P l fn tmps assign body w fun e w' =>
      ∃ o G' h',e = .returned (.bool o.isNone) ∧ post o h' ∧ WorldOK G' h' w' ∧ Frm G (w.putObj l (.loop (rec (stO o) o))) G' w'
def TrY (l : Nat) (rec : LoopState → Option Code → Loop) (G₀ : Gh) (cx : Cx) (n : Nat) (c : Code) (st : St) (Q : Option Code → Ex → St → Prop) : Prop :=
  ∀ (G : Gh) (w : World) (a : Act),Gle n G₀ G → Sim cx G w st a → Rdy l rec G w .ready none → ∀ (R : Exit → Act → World → Prop),
    (∀ o x st' G' w' a',Q o x st' → Sim cx G' w' st' a' → FrmX l n G w G' w' → (o = none → FrmN n G w G' w') → DefN w a a' → Rdy l rec G' w' (stO o) o → R (Ex.toExit x) a' w') → c.wpIn Fence.wide 0 cx.P R a w
section
variable {l : Nat} {rec : LoopState → Option Code → Loop} {G₀ : Gh} {cx : Cx} {n : Nat} {st : St} {Q : Option Code → Ex → St → Prop}
theorem DefN.trans {w w' : World} {a b d : Act} (h : DefN w a b) (k : DefN w' b d) (hs : w.heap.size ≤ w'.heap.size) : DefN w a d := by
  obtain ⟨ds,e,h1⟩ := h
  obtain ⟨es,e2,h2⟩ := k
  refine ⟨es ++ ds,by rw [e2,e,List.append_assoc],fun q hq D hD => ?_⟩
  rcases List.mem_append.1 hq with hq | hq
  · exact Nat.le_trans hs (h2 q hq D hD)
  · exact h1 q hq D hD
theorem DefN.refl (w : World) (a b : Act) (e : b.defers = a.defers) : DefN w a b := ⟨[],by rw [e]; rfl,fun _ h => by cases h⟩
theorem TrY.lift {c : Code} {Q1 : Ex → St → Prop} (H : Tr cx n c st Q1) (hQ : ∀ x s,Q1 x s → Q none x s) : TrY l rec G₀ cx n c st Q := fun G w a Le S D R hR =>
  H none (fun _ => rfl) G w a S R fun x s G' w' a' q S' F => hR none x s G' w' a' (hQ x s q) S' (.of F.fr) (fun _ => F.fr) F.df (D.frmN F.fr)
theorem TrY.mono {c : Code} {Q' : Option Code → Ex → St → Prop} (h : TrY l rec G₀ cx n c st Q) (hq : ∀ o x s,Q o x s → Q' o x s) : TrY l rec G₀ cx n c st Q' :=
  fun G w a Le H D R hR => h G w a Le H D R fun o x s G' w' a' q => hR o x s G' w' a' (hq o x s q)
theorem TrY.rest {c : Code} {o : Option Code} (H : Tr cx n c st fun x s => Q o x s) {G0 G : Gh} {w0 w : World} {a0 a : Act} (S : Sim cx G w st a) (F0 : FrmX l n G0 w0 G w) (D0 : DefN w0 a0 a) (D : Rdy l rec G w (stO o) o) (ho : o ≠ none) {R : Exit → Act → World → Prop}
    (hR : ∀ o x st' G' w' a',Q o x st' → Sim cx G' w' st' a' → FrmX l n G0 w0 G' w' → (o = none → FrmN n G0 w0 G' w') → DefN w0 a0 a' → Rdy l rec G' w' (stO o) o → R (Ex.toExit x) a' w') : c.wpIn Fence.wide 0 cx.P R a w :=
  H none (fun _ => rfl) G w a S R fun x s G' w' a' q S' F => hR o x s G' w' a' q S' (F0.trans (.of F.fr)) (fun e => absurd e ho) (D0.trans F.df F0.size) (D.frmN F.fr)
def thenY (K : Option Code → St → Prop) (Q : Option Code → Ex → St → Prop) : Option Code → Ex → St → Prop
  | o,.normal,s => K o s
  | o,x,s => Q o x s
theorem TrY.seq {x y : Code} (h : TrY l rec G₀ cx n x st (thenY (fun o s => (o = none → TrY l rec G₀ cx n y s Q) ∧ (o ≠ none → Tr cx n y s fun x s => Q o x s)) Q)) : TrY l rec G₀ cx n (.seq x y) st Q := fun G w ac Le H D R hR =>
  wpIn_seq (h G w ac Le H D _ fun o x s G' w' a' q S F F1 Df D' => by
    cases x with
    | normal =>
      cases o with
      | none => exact q.1 rfl G' w' a' (Le.frm (F1 rfl)) S D' R fun o2 x2 s2 G2 w2 a2 q2 S2 F2 F3 Df2 D2 => hR o2 x2 s2 G2 w2 a2 q2 S2 (F.trans F2) (fun e => (F1 rfl).trans (F3 e)) (Df.trans Df2 F.size) D2
      | some j => exact TrY.rest (q.2 (by simp)) S F Df D' (by simp) hR
    | exit id => exact hR o (.exit id) s G' w' a' q S F F1 Df D'
    | ret => exact hR o .ret s G' w' a' q S F F1 Df D')
theorem TrY.cond {c : Operand} {x y : Code} {b : Bool} (hc : cx.ev st.env c = .val (.bool b)) (h : TrY l rec G₀ cx n (if b then x else y) st Q) : TrY l rec G₀ cx n (.cond c x y) st Q := fun G w a Le H D R hR => by
  have hv := H.pre.ev c
  rw [hc,rep_val] at hv
  refine wpIn_cond (t := b) hv ?_
  cases b
  · exact h G w a Le H D R hR
  · exact h G w a Le H D R hR
def blockY (id : Nat) (Q : Option Code → Ex → St → Prop) : Option Code → Ex → St → Prop
  | o,.exit k,s => if k = id then Q o .normal s else Q o (.exit k) s
  | o,x,s => Q o x s
theorem TrY.block {id : Nat} {c : Code} (h : TrY l rec G₀ cx n c st (blockY id Q)) : TrY l rec G₀ cx n (.block id c) st Q := fun G w a Le H D R hR =>
  wpIn_block (h G w a Le H D _ fun o x s G' w' a' q S F F1 Df D' => by
    cases x with
    | normal => exact hR o .normal s G' w' a' q S F F1 Df D'
    | ret => exact hR o .ret s G' w' a' q S F F1 Df D'
    | exit k =>
      simp only [Ex.toExit,Exit.inBlock,blockY] at q ⊢
      split at q
      · rename_i e; rw [if_pos e]; exact hR o .normal s G' w' a' q S F F1 Df D'
      · rename_i e; rw [if_neg e]; exact hR o (.exit k) s G' w' a' q S F F1 Df D')
theorem TrY.loop {c : Code} (Inv : Nat → St → Prop) (m : Nat) (h0 : Inv m st) (h : ∀ m s,Inv m s → TrY l rec G₀ cx n c s (thenY (fun o s' => o = none ∧ ∃ k,k < m ∧ Inv k s') Q)) : TrY l rec G₀ cx n (.loop c) st Q := fun G w a Le H D R hR => by
  refine wpIn_loop_ghost (fun m a' w' => ∃ s G',Inv m s ∧ Sim cx G' w' s a' ∧ FrmN n G w G' w' ∧ DefN w a a' ∧ Rdy l rec G' w' .ready none) m ⟨st,G,h0,H,.refl n G w,.refl w a a rfl,D⟩ ?_
  rintro m a' w' ⟨s,G',hi,S,F,Df,D'⟩
  refine h m s hi G' w' a' (Le.frm F) S D' _ fun o x s2 G2 w2 a2 q S2 F2 F3 Df2 D2 => ?_
  cases x with
  | normal =>
    obtain ⟨rfl,k,hk,hik⟩ := q
    exact ⟨k,hk,s2,G2,hik,S2,F.trans (F3 rfl),Df.trans Df2 F.size,D2⟩
  | exit id => exact hR o (.exit id) s2 G2 w2 a2 q S2 (FrmX.trans (.of F) F2) (fun e => F.trans (F3 e)) (Df.trans Df2 F.size) D2
  | ret => exact hR o .ret s2 G2 w2 a2 q S2 (FrmX.trans (.of F) F2) (fun e => F.trans (F3 e)) (Df.trans Df2 F.size) D2
theorem TrY.weaken {c : Code} {env' : Nat → C} (h : ∀ t,CLe (st.env t) (env' t)) (k : TrY l rec G₀ cx n c ⟨env',st.h⟩ Q) : TrY l rec G₀ cx n c st Q := fun G w a Le H D R hR =>
  k G w a Le ⟨H.defers,H.size,H.pre.ok,⟨fun t => (h t).1 G _ (H.pre.env.1 t),fun t s m xs e => by
    rcases (h t).2 s m xs e with e' | e'
    · exact H.pre.env.2 t s m xs (e'.trans e)
    · obtain ⟨ad,hv⟩ := e' G _ (H.pre.env.1 t)
      rw [hv]; exact .inl ⟨ad,rfl⟩⟩,H.pre.glob⟩ D R hR
theorem yield_op {Y : Ys} (hY : YOK cx.P cx.gl l rec G₀ Y) {ops : Array Oper} {k d y : Nat} {args : Array Operand} {ts : Array TypeId} {ty : TypeId} {pos : String} {aft : Array Edge}
    (ho : ops[k]? = some ⟨some d,.call { callee := .value (.tmp y),args,argTypes := ts },ty,pos,aft,none⟩) (hd : d < cx.N) {G : Gh} {w : World} {a : Act} (Le : Gle n G₀ G) (H : Sim cx G w st a) (D : Rdy l rec G w .ready none)
    (hy : st.env y = .val (.func (.yield l) #[] #[])) {post : Option Code → Hp → Prop} (hp : Y ((args.toList.map (cx.evn st.env)).map C.share) st.h post) {K : Act → World → Prop} {Q : Exit → Act → World → Prop}
    (hK : ∀ o h' G' w' a',post o h' → Sim cx G' w' ⟨put (some d) (.val (.bool o.isNone)) st.env,h'⟩ a' → FrmX l n G w G' w' → (o = none → FrmN n G w G' w') → a'.defers = a.defers → Rdy l rec G' w' (stO o) o → K a' w') :
    wpOpIn Fence.wide 0 cx.P ops Q k K a w := by
  have hv := H.pre.ev (.tmp y)
  rw [ev_tmp,hy,rep_val] at hv
  have hargs : RepL (hide G) ((args.toList.map (cx.evn st.env)).map C.share) (args.map a.eval).toList := by
    simp only [Array.toList_map]
    refine RepL.of_get (by simp) fun i x v hxx hv => ?_
    simp only [List.map_map,List.getElem?_map] at hxx hv
    cases hq : args.toList[i]? with
    | none => rw [hq] at hxx; cases hxx
    | some q =>
      rw [hq] at hxx hv
      cases hxx; cases hv
      exact (share_rep (H.pre.evn q)).mono hide_le
  obtain ⟨fn,tmps,assign,body,hrun,hR⟩ := hY _ _ _ hp (hide G) w (args.map a.eval) (Le.le.trans hide_le) (hide_ok H.pre.ok) (fun g p hg => by
      simp only [hide] at hg
      cases hq : G.T g with
      | none => rw [hq] at hg; cases hg
      | some q =>
        rw [hq] at hg
        simp only [] at hg
        split at hg
        · cases hg; assumption
        · cases hg) (fun g => (H.pre.glob g).mono hide_le) (D.same (fun _ h => hide_none h) (fun _ h => h)) hargs
  unfold wpOpIn
  rw [ho]
  simp only [Region.wanted,if_true]
  refine ⟨fun _ _ => trivial,?_⟩
  have hex : (execOp a.eval ⟨some d,.call { callee := .value (.tmp y),args,argTypes := ts },ty,pos,aft,none⟩).run cx.P w = .ok (.round l fn tmps assign body) w := by
    simp [execOp,resolve,hv,Deferred.ofValue,invoke,Sem.run_bind,hrun]
  rw [semAt_ok (fun d e => by cases e) hex]
  simp only [Oper.uponIn]
  refine ⟨(fun h => by cases h),hR.mono ?_⟩
  rintro e w' ⟨o,G',h',rfl,hpost,W',F⟩
  obtain ⟨w1,hw1⟩ : ∃ w1,w.putObj l (.loop (rec (stO o) o)) = w1 := ⟨_,rfl⟩
  rw [hw1] at F
  have hlt : l < w.heap.size := (Array.getElem?_eq_some_iff.1 D.obj).1
  have hl1 : w1.heap[l]? = some (.loop (rec (stO o) o)) := by rw [← hw1]; exact World.putObj_heap_same hlt
  have hoth : ∀ g,g ≠ l → w1.heap[g]? = w.heap[g]? := fun g hg => by rw [← hw1]; exact World.putObj_heap_other hg
  have Sh : Shut 0 G w w1 := ⟨by rw [← hw1]; rfl,by rw [← hw1]; rfl,by rw [← hw1]; rfl,by rw [← hw1]; simp,fun g => by
    by_cases hg : g = l
    · subst hg; exact .inr ⟨Nat.zero_le _,⟨_,D.obj,.inr ⟨_,rfl⟩⟩,D.T,D.μ⟩
    · exact .inl (hoth g hg)⟩
  have H1 : Sim cx G w1 st a := ⟨⟨H.defers.1,fun d hd => by
    obtain ⟨E,e1,e2,e3⟩ := H.defers.2 d hd
    refine ⟨E,e1,(hoth E fun q => ?_).trans e2,e3⟩
    rw [q,D.obj] at e2; cases e2⟩,H.size,Sh.ok H.pre.ok,⟨H.pre.env.1,fun t s n xs e => Sh.row (H.pre.env.2 t s n xs e)⟩,H.pre.glob⟩
  have D1 : Rdy l rec G w1 (stO o) o := ⟨hl1,D.T,D.μ⟩
  have O := call_out (c := .val (.bool o.isNone)) (v := .bool o.isNone) H1.pre (0,d,0) W' F (rep_val.2 rfl) (fun s n xs e => by cases e)
  refine hK o h' _ w' _ hpost (H1.put (dst := some d) (fun q e => by cases e; exact hd) O) ?_ (fun e => ?_) (put_defers _ _ _) (D1.frmN (n := 0) (.of O.frm))
  · have F2 := O.frm
    exact ⟨F2.os.trans Sh.os,F2.tape.trans Sh.tape,F2.output.trans Sh.output,by have := F2.size; rw [Sh.size] at this; exact this,F2.le.K,fun b k _ x => F2.le.μ b k x,fun b k _ x => F2.le.σ b k x,fun g hg hs ht hm => by
      obtain ⟨a1,a2⟩ := F2.old g (by rw [Sh.size]; exact hs) ht hm
      exact ⟨a1.trans (hoth g hg),a2⟩⟩
  · have : w1 = w := by
      subst e
      rw [← hw1]
      have : (w.heap.setIfInBounds l (.loop (rec .ready none))) = w.heap := by
        apply Array.ext_getElem?
        intro i
        by_cases hi : i = l
        · subst hi; rw [D.obj]; simp [hlt]
        · exact Array.getElem?_setIfInBounds_ne (Ne.symm hi)
      show ({ w with heap := w.heap.setIfInBounds l (.loop (rec .ready none)) } : World) = w
      rw [this]
    have O2 := O.frm
    rw [this] at O2 ⊢
    exact .of O2
theorem steps_okK (hcx : CxOK cx) {F : Option Nat} {ops : Array Oper} {base : Nat} {Q : Exit → Act → World → Prop} {l2 : List Nat} : ∀ (l1 : List Nat) {G : Gh} {w : World} {st : St} {a : Act} {st' : St},Sim cx G w st a → steps cx ops base l1 st = some st' →
    (∀ G' w' a',Sim cx G' w' st' a' → Frm G w G' w' → a'.defers = a.defers → wpOpsIn (wF F) 0 cx.P ops Q l2 a' w') → wpOpsIn (wF F) 0 cx.P ops Q (l1 ++ l2) a w
  | [],G,w,st,a,st',H,h,hQ => by
    simp only [steps,Option.some.injEq] at h
    subst h
    exact hQ G w a H (Frm.refl G w) rfl
  | i :: l,G,w,st,a,st',H,h,hQ => by
    simp only [steps] at h
    cases hs : step cx ops base i st with
    | none => rw [hs] at h; cases h
    | some st1 =>
      rw [hs] at h
      rw [List.cons_append,wpOpsIn_cons]
      exact step_ok hcx H hs fun G' w' a' S F e => steps_okK hcx l S h fun G2 w2 a2 S2 F2 e2 => hQ G2 w2 a2 S2 (F.trans F2) (e2.trans e)
theorem runE_stepsP {ops : Array Oper} {base : Nat} {K : St → Prop} (h0 : ∀ k,cnt ops k = 0) : ∀ (l : List Oper) (k : Nat) (st : St),(∀ i,i < l.length → ops[k + i]? = l[i]?) →
    runE cx (ops.toList.filterMap appOf) (ops.toList.map (·.dst)) l base st K → ∃ st',steps cx ops base (List.range' k l.length) st = some st' ∧ K st'
  | [],k,st,_,h => ⟨st,rfl,h⟩
  | o :: l,k,st,hl,h => by
    have hk : ops[k]? = some o := by have := hl 0 (by simp); simpa using this
    have hl' : ∀ i,i < l.length → ops[k + 1 + i]? = l[i]? := fun i hi => by
      have := hl (i + 1) (by simp; omega)
      rw [show k + 1 + i = k + (i + 1) from by omega]
      simpa using this
    simp only [runE] at h
    obtain ⟨hd,h⟩ := h
    rw [wantedA_eq,splanA_eq] at h
    have hid : (if makes o then base + 1 else base) = base := by
      have := cnt_succ ops k o hk
      rw [h0,h0] at this
      split at this
      · omega
      · rename_i q; rw [if_neg q]
    rw [hid] at h
    simp only [List.length_cons,List.range'_succ,steps]
    have next : ∀ s,runE cx (ops.toList.filterMap appOf) (ops.toList.map (·.dst)) l base s K → step cx ops base k st = some s → ∃ st',(step cx ops base k st).bind (steps cx ops base (List.range' (k + 1) l.length)) = some st' ∧ K st' := fun s hs hst => by
      obtain ⟨st',h1,h2⟩ := runE_stepsP h0 l (k + 1) s hl' hs
      exact ⟨st',by rw [hst]; exact h1,h2⟩
    cases hw : wantedS ops o st.env with
    | none => rw [hw] at h; exact h.elim
    | some b =>
      rw [hw] at h
      cases b with
      | false =>
        refine next _ h ?_
        unfold step
        rw [hk]
        simp only [hd,if_true,hw]
      | true =>
        simp only [act1] at h
        cases hp : splan cx ops o st.env with
        | none => rw [hp] at h; exact h.elim
        | some p =>
          rw [hp] at h
          simp only [] at h
          cases ha : actH cx base p st.h with
          | none => rw [ha] at h; exact h.elim
          | some r =>
            rw [ha] at h
            refine next _ h ?_
            unfold step
            rw [hk]
            simp only [hd,if_true,hw,hp,act,h0,Nat.add_zero,ha,Option.map_some]
theorem TrY.rg (hcx : CxOK cx) {Y : Ys} (hY : YOK cx.P cx.gl l rec G₀ Y) {id : Nat} (L1 L2 : List Oper) {d y : Nat} {args : Array Operand} {ts : Array TypeId} {ty : TypeId} {pos : String} {aft : Array Edge} {e : List (Nat × C)} {h : Hp} {L : List Oper}
    (hL : L = L1 ++ ⟨some d,.call { callee := .value (.tmp y),args,argTypes := ts },ty,pos,aft,none⟩ :: L2) (hd : d < cx.N) (hm : L.countP makes = 0) (apps : List Nat) (dsts : List (Option Nat)) (h1 : L.filterMap appOf = apps) (h2 : L.map (·.dst) = dsts)
    (H : run cx apps dsts L1 h.length e h [] (fun _ s => s.env y = .val (.func (.yield l) #[] #[]) ∧ Y ((args.toList.map (cx.evn s.env)).map C.share) s.h fun o h' => runE cx apps dsts L2 h.length ⟨put (some d) (.val (.bool o.isNone)) s.env,h'⟩ (Q o .normal))) :
    TrY l rec G₀ cx n (.region id L.toArray false) ⟨A e,h⟩ Q := by
  intro G w a Le S D R hR
  have hc : ∀ k,cnt L.toArray k = 0 := fun k => by
    unfold cnt
    have : (L.take k).countP makes ≤ L.countP makes := (List.take_sublist k L).countP_le
    simp only []
    omega
  have hr := runE_of_run _ _ _ _ H
  have e1 : L.toArray.toList.filterMap appOf = apps := by simpa using h1
  have e2 : L.toArray.toList.map (·.dst) = dsts := by simpa using h2
  rw [← e1,← e2] at hr
  obtain ⟨s1,q1,q2,q3⟩ := runE_stepsP hc L1 0 _ (fun i hi => by simp [hL,List.getElem?_append_left hi]) hr
  have hy : L.toArray[L1.length]? = some ⟨some d,.call { callee := .value (.tmp y),args,argTypes := ts },ty,pos,aft,none⟩ := by simp [hL]
  refine wpIn_region (F := wF none) ?_
  have hlen : L.toArray.size = L1.length + (1 + L2.length) := by simp [hL]; omega
  rw [hlen,List.range_eq_range',← List.range'_append_1]
  refine steps_okK hcx _ S q1 fun G1 w1 a1 S1 F1 f1 => ?_
  rw [Nat.zero_add,Nat.add_comm 1,List.range'_succ,wpOpsIn_cons]
  refine yield_op (n := n) hY hy hd (Le.frm (.of F1)) S1 (D.frmN (n := 0) (.of F1)) q2 q3 fun o h' G2 w2 a2 p2 S2 F2 F3 f2 D2 => ?_
  obtain ⟨s2,r1,r2⟩ := runE_stepsP hc L2 (L1.length + 1) _ (fun i hi => by simp only [List.getElem?_toArray]; rw [hL,List.getElem?_append_right (by omega),show L1.length + 1 + i - L1.length = i + 1 from by omega,List.getElem?_cons_succ]) p2
  have key := steps_okK (F := none) (Q := R) (l2 := []) hcx (List.range' (L1.length + 1) L2.length) S2 r1 fun G3 w3 a3 S3 F4 f3 => by
    have F5 : FrmN n G2 w2 G3 w3 := .of F4
    exact hR o .normal s2 G3 w3 a3 r2 S3 ((FrmX.of (FrmN.of F1)).trans (F2.trans (.of F5))) (fun e => (FrmN.of F1).trans ((F3 e).trans F5)) (DefN.refl _ _ _ (f3.trans (f2.trans f1))) (D2.frmN F5)
  rwa [List.append_nil] at key
end
end Go.Sx
namespace Go.Sx
open Go.RowKit
theorem noK_loop {G : Gh} {h : Hp} {w : World} (W : WorldOK G h w) {l : Nat} {r : Loop} (hl : w.heap[l]? = some (.loop r)) (o : Nat) : G.K l o = none := by
  cases hk : G.K l o with
  | none => rfl
  | some u =>
    have := W.known l o u hk
    unfold World.cell? at this
    rw [hl] at this
    cases this
theorem FrmX.put {l n : Nat} {G : Gh} {w : World} (ob : Obj) : FrmX l n G w G (w.putObj l ob) :=
  ⟨rfl,rfl,rfl,by simp,fun _ _ _ x => x,fun _ _ _ x => x,fun _ _ _ x => x,fun g hg _ ht hm => ⟨World.putObj_heap_other hg,ht,hm,fun _ => rfl⟩⟩
theorem FrmX.toFrm {l n : Nat} {G G' : Gh} {w w' : World} {h h' : Hp} {r r0 : Loop} (F : FrmX l n G w G' w') (hn : ∀ b k,G.μ b = some k → b < n) (W : WorldOK G h w) (W' : WorldOK G' h' w') (h0 : w.heap[l]? = some (.loop r0)) (hl : w'.heap[l]? = some (.loop r)) (hT : G'.T l = none) (hμ : ∀ b,G'.μ b ≠ some l) :
    Frm G (w.putObj l (.loop r)) G' w' :=
  ⟨F.os,F.tape,F.output,by rw [World.putObj_size]; exact F.size,⟨F.K,fun b k x => F.μ b k (hn b k x) x,fun b z x => F.σ b z (by
    obtain ⟨k,_,_,_,hm,_⟩ := W.siz b z x
    exact hn b k hm) x⟩,fun g hg ht hm => by
    rw [World.putObj_size] at hg
    by_cases e : g = l
    · subst e
      exact ⟨by rw [World.putObj_heap_same hg]; exact hl,hT,hμ,fun o => by rw [noK_loop W h0,noK_loop W' hl]⟩
    · obtain ⟨a1,a2⟩ := F.old g e hg ht hm
      exact ⟨by rw [World.putObj_heap_other e]; exact a1,a2⟩⟩
theorem Shut.put {G : Gh} {w : World} {l : Nat} {ob0 ob : Obj} (h0 : w.heap[l]? = some ob0) (hb : Bk ob0) (hT : G.T l = none) (hμ : ∀ b,G.μ b ≠ some l) : Shut 0 G w (w.putObj l ob) :=
  ⟨rfl,rfl,rfl,by simp,fun g => by
    by_cases e : g = l
    · subst e; exact .inr ⟨Nat.zero_le _,⟨_,h0,hb⟩,hT,hμ⟩
    · exact .inl (World.putObj_heap_other e)⟩
theorem Sim.putL {cx : Cx} {G : Gh} {w : World} {st : St} {a : Act} {l : Nat} {r : Loop} {ob : Obj} (H : Sim cx G w st a) (h0 : w.heap[l]? = some (.loop r)) (hT : G.T l = none) (hμ : ∀ b,G.μ b ≠ some l) : Sim cx G (w.putObj l ob) st a := by
  have S := Shut.put (ob := ob) h0 (.inr ⟨r,rfl⟩) hT hμ
  exact ⟨⟨H.defers.1,fun d hd => by
    obtain ⟨E,e1,e2,e3⟩ := H.defers.2 d hd
    refine ⟨E,e1,(World.putObj_heap_other fun q => ?_).trans e2,e3⟩
    rw [q,h0] at e2; cases e2⟩,H.size,S.ok H.pre.ok,⟨H.pre.env.1,fun t s n xs e => S.row (H.pre.env.2 t s n xs e)⟩,H.pre.glob⟩
def endI (IN : Hp → Prop) (B : Code → Hp → Prop) : Option Code → Hp → Prop
  | none,h => IN h
  | some j,h => B j h
def ItrI (P : Program) (gl : Nat → C) (f : Nat) (caps : List C) (N : Nat) (xs : Nat → List C) (I : Nat → Hp → Prop) : Prop :=
  Entered P f ∧ ∀ (l : Nat) (rec : LoopState → Option Code → Loop) (B : Code → Hp → Prop) (h : Hp) (G : Gh) (w : World) (vs : Array Value) (Y : Ys),YOK P gl l rec G Y →
    (∀ i h post,i < N → I i h → (∀ o k,endI (I (i + 1)) B o k → post o k) → Y (xs i) h post) → I 0 h → WorldOK G h w → (∀ g p,G.T g = some p → p.1 = 1) → (∀ g,Rep G (gl g) (.pointer (some ⟨g,0,none⟩))) → Rdy l rec G w .ready none → RepL G caps vs.toList →
    CallsIn Fence.wide 0 P f (#[.func (.yield l) #[] #[]] ++ vs) w fun e w' => ∃ v o G' h',e = .returned v ∧ endI (I N) B o h' ∧ WorldOK G' h' w' ∧ Frm G (w.putObj l (.loop (rec (stO o) o))) G' w'
def EndsY (p : Option Code → Hp → Prop) : Option Code → Ex → St → Prop
  | _,.exit _,_ => False
  | o,_,st => p o st.h
theorem ItrI.of {cx : Cx} {f : Nat} {fn : Func} {code : Code} {caps : List C} {N : Nat} {xs : Nat → List C} {I : Nat → Hp → Prop} (hN : cx.N = fn.ntmps) (hf : cx.P.funcs[f]? = some fn) (hn : (fn.name == "runtime.NumGoroutine") = false) (hb : fn.body = some code) (hrs : fn.results = #[]) (hlen : caps.length + 1 ≤ fn.ntmps)
    (hT : ∀ (l : Nat) (rec : LoopState → Option Code → Loop) (G : Gh) (B : Code → Hp → Prop) (h : Hp) (Y : Ys),YOK cx.P cx.gl l rec G Y → (∀ i h post,i < N → I i h → (∀ o k,endI (I (i + 1)) B o k → post o k) → Y (xs i) h post) → I 0 h →
      TrY l rec G cx h.length code ⟨A (ini 0 (.val (.func (.yield l) #[] #[]) :: caps)),h⟩ (EndsY (endI (I N) B))) : ItrI cx.P cx.gl f caps N xs I := by
  refine ⟨⟨fn,hf,hn,by rw [hb]; rfl⟩,fun l rec B h G w vs Y hY hI h0 W hTg hgl D hr => ?_⟩
  have hvl : vs.size = caps.length := by rw [hr.length]; simp
  have hn0 : ∀ b k,G.μ b = some k → b < h.length := fun b k hm => by
    obtain ⟨⟨cells,hc⟩,_⟩ := W.dom b k hm
    exact (List.getElem?_eq_some_iff.1 hc).1
  have Le : Gle h.length G G := ⟨fun _ _ _ x => x,fun b k x => ⟨hn0 b k x,x⟩,fun b z x => ⟨by
    obtain ⟨k,_,_,_,hm,_⟩ := W.siz b z x
    exact hn0 b k hm,x⟩⟩
  have hargs : RepL G (.val (.func (.yield l) #[] #[]) :: caps) (#[Value.func (.yield l) #[] #[]] ++ vs).toList := by
    simp only [Array.toList_append,List.cons_append,List.nil_append,RepL]
    exact ⟨_,_,rfl,rep_val.2 rfl,hr⟩
  have hsz : (#[Value.func (.yield l) #[] #[]] ++ vs).size = caps.length + 1 := by simp [hvl]; omega
  refine callsIn_of_wp_marks (F := Fence.wide) (n := 0) hf hb trivial ?_
  have hsim : Sim cx G w ⟨init (.val (.func (.yield l) #[] #[]) :: caps),h⟩ { tmps := (#[.func (.yield l) #[] #[]] ++ vs) ++ Array.replicate (fn.ntmps - (#[Value.func (.yield l) #[] #[]] ++ vs).size) undef,defers := [] } := by
    refine ⟨Mks.nil,?_,W,⟨fun t => ?_,fun t s m xs e => (noR_own e).elim⟩,hgl⟩
    · rw [Array.size_append,Array.size_replicate,hsz,hN]; omega
    · simp only [init,av,Array.getD_eq_getD_getElem?]
      refine Rep.noR ?_
      cases hq : (C.val (.func (.yield l) #[] #[]) :: caps)[t]? with
      | some x =>
        obtain ⟨v,hv,hrv⟩ := hargs.get t x hq
        have hlt : t < (#[Value.func (.yield l) #[] #[]] ++ vs).size := by
          have := (List.getElem?_eq_some_iff.1 hv).1
          rw [hsz]; simp at this; omega
        rw [Array.getElem?_append_left hlt]
        have hv' : (#[Value.func (.yield l) #[] #[]] ++ vs)[t]? = some v := by rw [← Array.getElem?_toList]; exact hv
        rw [hv']
        exact hrv
      | none =>
        have hge : (#[Value.func (.yield l) #[] #[]] ++ vs).size ≤ t := by
          have := List.getElem?_eq_none_iff.1 hq
          rw [hsz]; simpa using this
        rw [Array.getElem?_append_right hge]
        simp only [Option.getD_none]
        rw [rep_val]
        cases hq2 : (Array.replicate (fn.ntmps - (#[Value.func (.yield l) #[] #[]] ++ vs).size) undef)[t - (#[Value.func (.yield l) #[] #[]] ++ vs).size]? with
        | none => rfl
        | some u =>
          rw [Array.getElem?_replicate] at hq2
          split at hq2
          · cases hq2; rfl
          · cases hq2
  have hW := (TrY.weaken (fun t => CLe.init _ t) (hT l rec G B h Y hY hI h0)) G w _ Le hsim D
  refine hW _ fun o x st' G' w' a' hx S F F1 Df D' => ?_
  obtain ⟨ds,hds,hnew⟩ := Df
  rw [List.append_nil] at hds
  have go : endI (I N) B o st'.h → LeavesInM Fence.wide 0 cx.P fn a'.tmps (fun e w' => ∃ v o G' h',e = .returned v ∧ endI (I N) B o h' ∧ WorldOK G' h' w' ∧ Frm G (w.putObj l (.loop (rec (stO o) o))) G' w') a'.defers .returning w' := fun hx =>
    leaves_marks (m := w.heap.size) (G := G') (w := w') a'.defers (Shut.refl _ _ _) S.defers (by rw [hds]; exact hnew) fun w2 T => by
      have hres : results { cx with N := fn.ntmps } fn st' = some (.tup []) := by
        unfold results; rw [hrs]; rfl
      have S2 := T.sim S
      obtain ⟨v,G2,r1,r2,r3,r4,r5,r6,r7⟩ := results_ok (cx := { cx with N := fn.ntmps }) (n := h.length) (fn := fn) (c := .tup []) (⟨S2.defers,hN ▸ S2.size,⟨S2.pre.ok,S2.pre.env,S2.pre.glob⟩⟩ : Sim { cx with N := fn.ntmps } G' w2 st' { a' with defers := [] }) hres
      have hlt : l < w.heap.size := (Array.getElem?_eq_some_iff.1 D.obj).1
      have hl2 : w2.heap[l]? = some (.loop (rec (stO o) o)) := by
        rcases T.heap l with q | ⟨q,_⟩
        · exact q.trans D'.obj
        · omega
      have F2 : FrmX l h.length G w G2 w2 := by
        refine FrmX.trans (B := G') (b := w2) ?_ (.of r5)
        exact ⟨T.os.trans F.os,T.tape.trans F.tape,T.output.trans F.output,by rw [T.size]; exact F.size,F.K,F.μ,F.σ,fun g hg hs ht hm => by
          obtain ⟨a1,a2⟩ := F.old g hg hs ht hm
          refine ⟨?_,a2⟩
          rcases T.heap g with q | ⟨q,_⟩
          · exact q.trans a1
          · omega⟩
      have D2 : Rdy l rec G2 w2 (stO o) o := Rdy.frmN (n := h.length) ⟨hl2,D'.T,D'.μ⟩ r5
      exact ⟨v,r1,v,o,G2,st'.h,rfl,hx,r4,F2.toFrm hn0 W r4 D.obj hl2 D2.T D2.μ⟩
  cases x with
  | exit k => exact hx.elim
  | normal => exact go hx
  | ret => exact go hx
end Go.Sx
