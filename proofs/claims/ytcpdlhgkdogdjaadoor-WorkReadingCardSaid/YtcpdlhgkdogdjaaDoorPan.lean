/-
   And what follows.
-/
import Derived.Test.YtcpdlhgkdogdjaaDoorPam
import Derived.Test.YtcpdlhgkdogdjaaDoorPal
import Derived.Test.YtcpdlhgkdogdjaaDoorPak
set_option linter.unusedSimpArgs false
set_option linter.unusedVariables false
namespace Go.Sx
open Go.RowKit Go.Proofs
set_option maxRecDepth 10000
abbrev ID := Int × Int × Int
def iD (x : ID) : List C := [.val (.int .i64 x.1),.val (.int .i64 x.2.1),.val (.int .i64 x.2.2)]
abbrev Psg := ID × Int × Int × List UInt8 × List ID
def pC (x : Psg) : List C := [.val (.int .i64 x.1.1),.val (.int .i64 x.1.2.1),.val (.int .i64 x.1.2.2),.val (.int .i64 x.2.1),.val (.int .i64 x.2.2.1),.val (str x.2.2.2.1),sl iD .no x.2.2.2.2]
abbrev Art := List UInt8 × List Psg
def aC (x : Art) : List C := [.val (str x.1),sl pC .no x.2]
abbrev Vol := List Art
def vC (x : Vol) : List C := [sl aC .no x]
abbrev Wrk := List Vol
instance : Cel iD 3 := ⟨fun _ => rfl,fun _ => rfl,by decide,fun _ _ => rfl⟩
instance : Cel pC 7 := ⟨fun _ => rfl,fun _ => rfl,by decide,fun _ _ => rfl⟩
instance : Cel aC 2 := ⟨fun _ => rfl,fun _ => rfl,by decide,fun _ _ => rfl⟩
instance : Sca vC (sl aC .no) := ⟨fun _ => rfl,fun _ => rfl,fun _ => rfl,fun _ _ => rfl⟩
instance : Fla iD := ⟨fun _ => rfl⟩
instance : Nrf pC := ⟨fun k x => by simp only [pC,noRefs,noRef,noRef_sl,Bool.and_self]⟩
instance : Nrf aC := ⟨fun k x => by simp only [aC,noRefs,noRef,noRef_sl,Bool.and_self]⟩
instance : Nrf vC := ⟨fun k x => by simp only [vC,noRefs,noRef,noRef_sl,Bool.and_self]⟩
instance : Inj iD := ⟨fun a b h => by
  obtain ⟨a1,a2,a3⟩ := a; obtain ⟨b1,b2,b3⟩ := b
  simp only [iD,List.cons.injEq,C.val.injEq,Value.int.injEq,true_and,and_true] at h
  obtain ⟨rfl,rfl,rfl⟩ := h; rfl⟩
instance : Inj pC := ⟨fun a b h => by
  obtain ⟨⟨a1,a2,a3⟩,a4,a5,a6,a7⟩ := a; obtain ⟨⟨b1,b2,b3⟩,b4,b5,b6,b7⟩ := b
  simp only [pC,List.cons.injEq,C.val.injEq,Value.int.injEq,str_inj,sl_inj,true_and,and_true] at h
  obtain ⟨rfl,rfl,rfl,rfl,rfl,rfl,rfl⟩ := h; rfl⟩
instance : Inj aC := ⟨fun a b h => by
  obtain ⟨a1,a2⟩ := a; obtain ⟨b1,b2⟩ := b
  simp only [aC,List.cons.injEq,C.val.injEq,str_inj,sl_inj,true_and,and_true] at h
  obtain ⟨rfl,rfl⟩ := h; rfl⟩
instance : Inj vC := ⟨fun a b h => by
  simp only [vC,List.cons.injEq,sl_inj,and_true] at h; exact h⟩
theorem iD_noR (x : ID) : List.map C.noR (iD x) = iD x := rfl
theorem pC_noR (x : Psg) : List.map C.noR (pC x) = pC x := rfl
theorem aC_noR (x : Art) : List.map C.noR (aC x) = aC x := rfl
theorem vC_noR (x : Vol) : List.map C.noR (vC x) = vC x := rfl
theorem rda_drop (xs : List C) (k o n : Nat) (h : k ≤ xs.length) : rda (xs.drop k) o n = rda xs (k + o) n := by
  unfold rda
  rw [List.length_drop,List.drop_drop]
  by_cases e : k + o + n ≤ xs.length
  · rw [if_pos (by omega),if_pos e]
  · rw [if_neg (by omega),if_neg e]
theorem rdcE {α : Type} [Inhabited α] (f : α → List C) {s : Nat} [hf : Cel f s] (l : List α) (k j : Nat) (h : k < l.length) (hj : j < s) : rdc (cl f l) (k * s + j) = rdc (f (gt l k)) j := by
  unfold rdc
  have e : gt l k = l[k] := by simp [gt,List.getD,List.getElem?_eq_getElem h]
  rw [cl_getq (f := f) l k j hj,List.getElem?_eq_getElem h,e]
  rfl
theorem rdaE {α : Type} [Inhabited α] (f : α → List C) {s : Nat} [hf : Cel f s] (l : List α) (k j n : Nat) (h : k < l.length) (hj : j + n ≤ s) : rda (cl f l) (k * s + j) n = rda (f (gt l k)) j n := by
  have e : l[k]? = some (gt l k) := by simp [gt,List.getD,List.getElem?_eq_getElem h]
  have ha := cl_at (f := f) l k _ e
  have hl := cl_len (f := f) l
  have hlf := hf.len (gt l k)
  have hk : k * s + s ≤ l.length * s := by
    have : (k + 1) * s ≤ l.length * s := Nat.mul_le_mul_right s h
    rw [Nat.add_mul,Nat.one_mul] at this; exact this
  unfold rda
  rw [if_pos (by rw [hl]; omega),if_pos (by rw [hlf]; omega)]
  congr 3
  rw [← ha,List.drop_take,List.take_take,Nat.min_eq_left (by omega),List.drop_drop]
theorem set_apx (k : Hp) (x y : Option (List C)) : (k ++ [x]).set k.length y = k ++ [y] := by simp
theorem at_apx (k : Hp) (x : Option (List C)) : Hp.at (k ++ [x]) k.length = liveC x := by rw [Hp.at_append,if_pos rfl]
theorem get_apx (k : Hp) (x : Option (List C)) : (k ++ [x])[k.length]? = some x := by simp
theorem live_pC (x : Psg) : liveC (some (pC x)) = some (pC x) := rfl
theorem live_aC (x : Art) : liveC (some (aC x)) = some (aC x) := rfl
theorem live_vC (x : Vol) : liveC (some (vC x)) = some (vC x) := rfl
theorem rda_iD (x : ID) : rda (iD x) 0 3 = some (.agg (iD x)) := rfl
theorem rda_pC (x : Psg) : rda (pC x) 0 7 = some (.agg (pC x)) := rfl
theorem rda_pC3 (x : Psg) : rda (pC x) 0 3 = some (.agg (iD x.1)) := rfl
theorem faG {P : Program} {t i ft k : Nat} {fs : Array Field} {fd : Field} {de : TD} {s y : Nat} {z : List Value} (h1 : td P t = some ⟨.struct fs,s,y,z⟩) (h2 : fs[i]? = some fd) (ht : fd.type = ft) (hk : fd.offset = k) (h3 : td P ft = some de) (h4 : ¬ de.size = 0) (b o : Nat) : fieldAddrPlan P t (.bp b o) i = some (vp (.bp b (o + k))) := by
  subst ht hk
  unfold fieldAddrPlan; simp only [h1,h2,h3,if_neg h4]; rfl
theorem fkG {P : Program} {t i ft k : Nat} {fs : Array Field} {fd : Field} {de : TD} {s y : Nat} {z : List Value} (h1 : td P t = some ⟨.struct fs,s,y,z⟩) (h2 : fs[i]? = some fd) (ht : fd.type = ft) (hk : fd.offset = k) (h3 : td P ft = some de) (h4 : ¬ de.size = 0) (xs : List C) (h : k ≤ xs.length) : fieldAddrPlan P t (.kp xs) i = some (vp (.kp (xs.drop k))) := by
  subst ht hk
  unfold fieldAddrPlan; simp only [h1,h2,h3,if_neg h4,if_pos h]; rfl
theorem wrz_iD (a b c : C) (x : ID) : wrc [a,b,c] 0 (iD x) = some (iD x,.val undef) := rfl
theorem stB_iD (fs : Array Field) (b o y : Nat) (z : List Value) (x : ID) : stB (some ⟨.struct fs,3,y,z⟩) b o (some (iD x)) = some (.wr b (fun cells => wrc cells o (iD x)) none) := rfl
theorem wrz_pC (a b c d e f g : C) (x : Psg) : wrc [a,b,c,d,e,f,g] 0 (pC x) = some (pC x,.val undef) := rfl
theorem stB_pC (fs : Array Field) (b o y : Nat) (z : List Value) (x : Psg) : stB (some ⟨.struct fs,7,y,z⟩) b o (some (pC x)) = some (.wr b (fun cells => wrc cells o (pC x)) none) := rfl
theorem wrz_aC (a b : C) (x : Art) : wrc [a,b] 0 (aC x) = some (aC x,.val undef) := rfl
theorem stB_aC (fs : Array Field) (b o y : Nat) (z : List Value) (x : Art) : stB (some ⟨.struct fs,2,y,z⟩) b o (some (aC x)) = some (.wr b (fun cells => wrc cells o (aC x)) none) := rfl
theorem wrz_vC (a : C) (x : Vol) : wrc [a] 0 (vC x) = some (vC x,.val undef) := rfl
theorem stB_vC (fs : Array Field) (b o y : Nat) (z : List Value) (x : Vol) : stB (some ⟨.struct fs,1,y,z⟩) b o (some (vC x)) = some (.wr b (fun cells => wrc cells o (vC x)) none) := rfl
theorem rdc_iD_0 (x : ID) : rdc (iD x) 0 = some (.val (.int .i64 x.1)) := rfl
theorem rdc_iD_1 (x : ID) : rdc (iD x) 1 = some (.val (.int .i64 x.2.1)) := rfl
theorem rdc_iD_2 (x : ID) : rdc (iD x) 2 = some (.val (.int .i64 x.2.2)) := rfl
theorem rda_cliD (l : List ID) (k : Nat) (h : k < l.length) : rda (cl iD l) (k * 3) 3 = some (.agg (iD (gt l k))) := by
  have := rdaE iD l k 0 3 h (by decide)
  rw [Nat.add_zero] at this
  exact this
theorem rdc_pC_3 (x : Psg) : rdc (pC x) 3 = some (.val (.int .i64 x.2.1)) := rfl
theorem rdc_clpC_3 (l : List Psg) (k : Nat) (h : k < l.length) : rdc (cl pC l) (k * 7 + 3) = some (.val (.int .i64 (gt l k).2.1)) := by
  have := rdcE pC l k 3 h (by decide)
  exact this
theorem rdc_pC_4 (x : Psg) : rdc (pC x) 4 = some (.val (.int .i64 x.2.2.1)) := rfl
theorem rdc_pC_5 (x : Psg) : rdc (pC x) 5 = some (.val (str x.2.2.2.1)) := rfl
theorem rdc_pC_6 (x : Psg) : rdc (pC x) 6 = some (sl iD .no x.2.2.2.2) := rfl
theorem rda_clpC (l : List Psg) (k : Nat) (h : k < l.length) : rda (cl pC l) (k * 7) 7 = some (.agg (pC (gt l k))) := by
  have := rdaE pC l k 0 7 h (by decide)
  rw [Nat.add_zero] at this
  exact this
theorem rda_clpC3 (l : List Psg) (k : Nat) (h : k < l.length) : rda (cl pC l) (k * 7) 3 = some (.agg (iD (gt l k).1)) := by
  have := rdaE pC l k 0 3 h (by decide)
  rw [Nat.add_zero] at this
  exact this
theorem rdc_aC_0 (x : Art) : rdc (aC x) 0 = some (.val (str x.1)) := rfl
theorem rdc_aC_1 (x : Art) : rdc (aC x) 1 = some (sl pC .no x.2) := rfl
theorem rdc_claC_1 (l : List Art) (k : Nat) (h : k < l.length) : rdc (cl aC l) (k * 2 + 1) = some (sl pC .no (gt l k).2) := by
  have := rdcE aC l k 1 h (by decide)
  exact this
theorem rda_claC (l : List Art) (k : Nat) (h : k < l.length) : rda (cl aC l) (k * 2) 2 = some (.agg (aC (gt l k))) := by
  have := rdaE aC l k 0 2 h (by decide)
  rw [Nat.add_zero] at this
  exact this
theorem rdc_vC_0 (x : Vol) : rdc (vC x) 0 = some (sl aC .no x) := rfl
theorem rdc_clvC_0 (l : List Vol) (k : Nat) (h : k < l.length) : rdc (cl vC l) (k) = some (sl aC .no (gt l k)) := by
  have := rdcE vC l k 0 h (by decide)
  rw [Nat.mul_one,Nat.add_zero] at this
  exact this
theorem rda_clvC (l : List Vol) (k : Nat) (h : k < l.length) : rda (cl vC l) (k) 1 = some (.agg (vC (gt l k))) := by
  have := rdaE vC l k 0 1 h (by decide)
  rw [Nat.mul_one,Nat.add_zero] at this
  exact this
theorem wrc2_0 (a b x : C) : wrc [a,b] 0 [x] = some ([x,b],.val undef) := rfl
theorem wrc2_1 (a b x : C) : wrc [a,b] 1 [x] = some ([a,x],.val undef) := rfl
theorem wrs2_1 (a b x : C) : wrs [a,b] 1 x = some ([a,x],.val undef) := rfl
theorem wrc3_0 (a b c x : C) : wrc [a,b,c] 0 [x] = some ([x,b,c],.val undef) := rfl
theorem wrc3_1 (a b c x : C) : wrc [a,b,c] 1 [x] = some ([a,x,c],.val undef) := rfl
theorem wrc3_2 (a b c x : C) : wrc [a,b,c] 2 [x] = some ([a,b,x],.val undef) := rfl
theorem wrc7_3 (a b c d e f g x : C) : wrc [a,b,c,d,e,f,g] 3 [x] = some ([a,b,c,x,e,f,g],.val undef) := rfl
theorem wrc7_4 (a b c d e f g x : C) : wrc [a,b,c,d,e,f,g] 4 [x] = some ([a,b,c,d,x,f,g],.val undef) := rfl
theorem wrc7_5 (a b c d e f g x : C) : wrc [a,b,c,d,e,f,g] 5 [x] = some ([a,b,c,d,e,x,g],.val undef) := rfl
theorem wrc7_6 (a b c d e f g x : C) : wrc [a,b,c,d,e,f,g] 6 [x] = some ([a,b,c,d,e,f,x],.val undef) := rfl
theorem wrs7_6 (a b c d e f g x : C) : wrs [a,b,c,d,e,f,g] 6 x = some ([a,b,c,d,e,f,x],.val undef) := rfl
theorem fa34_0 (b o : Nat) : fieldAddrPlan Tryd.prog 34 (.bp b o) 0 = some (vp (.bp b (o + 0))) := @faG Tryd.prog 34 0 3 0 _ _ _ _ _ _ td34 rfl rfl rfl td3 (by decide) b o
theorem fa34_1 (b o : Nat) : fieldAddrPlan Tryd.prog 34 (.bp b o) 1 = some (vp (.bp b (o + 1))) := @faG Tryd.prog 34 1 3 1 _ _ _ _ _ _ td34 rfl rfl rfl td3 (by decide) b o
theorem fa34_2 (b o : Nat) : fieldAddrPlan Tryd.prog 34 (.bp b o) 2 = some (vp (.bp b (o + 2))) := @faG Tryd.prog 34 2 3 2 _ _ _ _ _ _ td34 rfl rfl rfl td3 (by decide) b o
theorem fa60_0 (b o : Nat) : fieldAddrPlan Tryd.prog 60 (.bp b o) 0 = some (vp (.bp b (o + 0))) := @faG Tryd.prog 60 0 3 0 _ _ _ _ _ _ td60 rfl rfl rfl td3 (by decide) b o
theorem fa60_1 (b o : Nat) : fieldAddrPlan Tryd.prog 60 (.bp b o) 1 = some (vp (.bp b (o + 1))) := @faG Tryd.prog 60 1 3 1 _ _ _ _ _ _ td60 rfl rfl rfl td3 (by decide) b o
theorem fa60_2 (b o : Nat) : fieldAddrPlan Tryd.prog 60 (.bp b o) 2 = some (vp (.bp b (o + 2))) := @faG Tryd.prog 60 2 3 2 _ _ _ _ _ _ td60 rfl rfl rfl td3 (by decide) b o
theorem fa37_0 (b o : Nat) : fieldAddrPlan Tryd.prog 37 (.bp b o) 0 = some (vp (.bp b (o + 0))) := @faG Tryd.prog 37 0 34 0 _ _ _ _ _ _ td37 rfl rfl rfl td34 (by decide) b o
theorem fk37_0 (xs : List C) (h : 0 ≤ xs.length) : fieldAddrPlan Tryd.prog 37 (.kp xs) 0 = some (vp (.kp (xs.drop 0))) := @fkG Tryd.prog 37 0 34 0 _ _ _ _ _ _ td37 rfl rfl rfl td34 (by decide) xs h
theorem fa37_1 (b o : Nat) : fieldAddrPlan Tryd.prog 37 (.bp b o) 1 = some (vp (.bp b (o + 3))) := @faG Tryd.prog 37 1 3 3 _ _ _ _ _ _ td37 rfl rfl rfl td3 (by decide) b o
theorem fk37_1 (xs : List C) (h : 3 ≤ xs.length) : fieldAddrPlan Tryd.prog 37 (.kp xs) 1 = some (vp (.kp (xs.drop 3))) := @fkG Tryd.prog 37 1 3 3 _ _ _ _ _ _ td37 rfl rfl rfl td3 (by decide) xs h
theorem fa37_2 (b o : Nat) : fieldAddrPlan Tryd.prog 37 (.bp b o) 2 = some (vp (.bp b (o + 4))) := @faG Tryd.prog 37 2 3 4 _ _ _ _ _ _ td37 rfl rfl rfl td3 (by decide) b o
theorem fa37_3 (b o : Nat) : fieldAddrPlan Tryd.prog 37 (.bp b o) 3 = some (vp (.bp b (o + 5))) := @faG Tryd.prog 37 3 9 5 _ _ _ _ _ _ td37 rfl rfl rfl td9 (by decide) b o
theorem fa37_4 (b o : Nat) : fieldAddrPlan Tryd.prog 37 (.bp b o) 4 = some (vp (.bp b (o + 6))) := @faG Tryd.prog 37 4 35 6 _ _ _ _ _ _ td37 rfl rfl rfl td35 (by decide) b o
theorem fa46_0 (b o : Nat) : fieldAddrPlan Tryd.prog 46 (.bp b o) 0 = some (vp (.bp b (o + 0))) := @faG Tryd.prog 46 0 44 0 _ _ _ _ _ _ td46 rfl rfl rfl td44 (by decide) b o
theorem fk46_0 (xs : List C) (h : 0 ≤ xs.length) : fieldAddrPlan Tryd.prog 46 (.kp xs) 0 = some (vp (.kp (xs.drop 0))) := @fkG Tryd.prog 46 0 44 0 _ _ _ _ _ _ td46 rfl rfl rfl td44 (by decide) xs h
theorem fa48_0 (b o : Nat) : fieldAddrPlan Tryd.prog 48 (.bp b o) 0 = some (vp (.bp b (o + 0))) := @faG Tryd.prog 48 0 9 0 _ _ _ _ _ _ td48 rfl rfl rfl td9 (by decide) b o
theorem fa48_1 (b o : Nat) : fieldAddrPlan Tryd.prog 48 (.bp b o) 1 = some (vp (.bp b (o + 1))) := @faG Tryd.prog 48 1 30 1 _ _ _ _ _ _ td48 rfl rfl rfl td30 (by decide) b o
theorem fk48_1 (xs : List C) (h : 1 ≤ xs.length) : fieldAddrPlan Tryd.prog 48 (.kp xs) 1 = some (vp (.kp (xs.drop 1))) := @fkG Tryd.prog 48 1 30 1 _ _ _ _ _ _ td48 rfl rfl rfl td30 (by decide) xs h
theorem fa29_0 (b o : Nat) : fieldAddrPlan Tryd.prog 29 (.bp b o) 0 = some (vp (.bp b (o + 0))) := @faG Tryd.prog 29 0 27 0 _ _ _ _ _ _ td29 rfl rfl rfl td27 (by decide) b o
theorem fk29_0 (xs : List C) (h : 0 ≤ xs.length) : fieldAddrPlan Tryd.prog 29 (.kp xs) 0 = some (vp (.kp (xs.drop 0))) := @fkG Tryd.prog 29 0 27 0 _ _ _ _ _ _ td29 rfl rfl rfl td27 (by decide) xs h
attribute [go_sem] stB_iD stB_pC stB_aC stB_vC rda_drop set_apx at_apx get_apx live_pC live_aC live_vC rda_iD rda_pC rda_pC3 rdc_iD_0 rdc_iD_1 rdc_iD_2 rdc_pC_3 rdc_pC_4 rdc_pC_5 rdc_pC_6 rdc_aC_0 rdc_aC_1 rdc_vC_0 fa34_0 fa34_1 fa34_2 fa60_0 fa60_1 fa60_2 fa37_0 fk37_0 fa37_1 fk37_1 fa37_2 fa37_3 fa37_4 fa46_0 fk46_0 fa48_0 fa48_1 fk48_1 fa29_0 fk29_0
attribute [go_sem high] wrz_iD wrz_pC wrz_aC wrz_vC iD_noR pC_noR aC_noR vC_noR rda_cliD rdc_clpC_3 rda_clpC rda_clpC3 rdc_claC_1 rda_claC rdc_clvC_0 rda_clvC wrc2_0 wrc2_1 wrs2_1 wrc3_0 wrc3_1 wrc3_2 wrc7_3 wrc7_4 wrc7_5 wrc7_6 wrs7_6
end Go.Sx
namespace Go.Sx
end Go.Sx
namespace Go.Sx
structure Tok where
  a : Nat
  e : Nat
  k : Nat
deriving DecidableEq
instance : Inhabited Tok := ⟨⟨0,0,0⟩⟩
def kd (c : UInt8) : Nat := if (97 ≤ c ∧ c ≤ 122) ∨ (65 ≤ c ∧ c ≤ 90) then 0 else if 48 ≤ c ∧ c ≤ 57 then 1 else if c = 64 then 3 else 2
theorem all8 (p : UInt8 → Bool) (h : (List.range 256).all (fun n => p (UInt8.ofNat n)) = true) (c : UInt8) : p c = true := by
  have h1 := List.all_eq_true.1 h c.toNat (List.mem_range.2 c.toNat_lt)
  have h2 : UInt8.ofNat c.toNat = c := UInt8.toNat_inj.1 (by simp)
  rwa [h2] at h1
theorem kd_le (c : UInt8) : kd c ≤ 3 := by
  have := all8 (fun c => decide (kd c ≤ 3)) (by decide +kernel) c
  simpa using this
theorem kd_blank : kd 32 = 2 := by decide
def spl (p : Nat) : Option (Nat × Nat) → List UInt8 → List Tok
  | none,[] => []
  | some (a,k),[] => [⟨a,p,k⟩]
  | none,c :: r => if c = 32 then spl (p + 1) none r else spl (p + 1) (some (p,kd c)) r
  | some (a,k),c :: r => if c ≠ 32 ∧ k < 2 ∧ kd c = k then spl (p + 1) (some (a,k)) r else
      ⟨a,p,k⟩ :: (if c = 32 then spl (p + 1) none r else spl (p + 1) (some (p,kd c)) r)
def toks (s : List UInt8) : List Tok := spl 0 none s
def rnL (k : Nat) : List UInt8 → Nat
  | [] => 0
  | c :: r => if k < 2 ∧ kd c = k then rnL k r + 1 else 0
theorem rnL_le (k : Nat) : ∀ l,rnL k l ≤ l.length
  | [] => Nat.le_refl _
  | c :: r => by
    unfold rnL
    have := rnL_le k r
    split <;> simp <;> omega
theorem spl_none_cons (p : Nat) (c : UInt8) (r : List UInt8) : spl p none (c :: r) = if c = 32 then spl (p + 1) none r else spl (p + 1) (some (p,kd c)) r := rfl
theorem spl_open (a k : Nat) : ∀ (l : List UInt8) (p : Nat),spl p (some (a,k)) l = ⟨a,p + rnL k l,k⟩ :: spl (p + rnL k l) none (l.drop (rnL k l))
  | [],p => rfl
  | c :: r,p => by
    by_cases h : k < 2 ∧ kd c = k
    · have hc : c ≠ 32 := by rintro rfl; rw [kd_blank] at h; omega
      have e1 : spl p (some (a,k)) (c :: r) = spl (p + 1) (some (a,k)) r := if_pos ⟨hc,h⟩
      have e2 : rnL k (c :: r) = rnL k r + 1 := if_pos h
      rw [e1,e2,spl_open a k r (p + 1),List.drop_succ_cons]
      rw [show p + 1 + rnL k r = p + (rnL k r + 1) by omega]
    · have e1 : spl p (some (a,k)) (c :: r) = ⟨a,p,k⟩ :: spl p none (c :: r) := if_neg (fun h' => h h'.2)
      have e2 : rnL k (c :: r) = 0 := if_neg h
      rw [e1,e2]
      rfl
theorem spl_tok (p : Nat) (c : UInt8) (r : List UInt8) (h : c ≠ 32) : spl p none (c :: r) = ⟨p,p + 1 + rnL (kd c) r,kd c⟩ :: spl (p + 1 + rnL (kd c) r) none (r.drop (rnL (kd c) r)) := by
  rw [spl_none_cons,if_neg h,spl_open]
theorem spl_blank (p : Nat) (r : List UInt8) : spl p none (32 :: r) = spl (p + 1) none r := by rw [spl_none_cons,if_pos rfl]
def Lie (lo hi : Nat) : List Tok → Prop
  | [] => lo ≤ hi
  | t :: r => lo ≤ t.a ∧ t.a < t.e ∧ t.e ≤ hi ∧ t.k ≤ 3 ∧ Lie t.e hi r
theorem Lie.mono {lo lo' hi : Nat} (h : lo' ≤ lo) : ∀ {l : List Tok},Lie lo hi l → Lie lo' hi l
  | [],k => Nat.le_trans h k
  | t :: r,k => ⟨Nat.le_trans h k.1,k.2⟩
theorem spl_lie : ∀ (l : List UInt8) (p : Nat),Lie p (p + l.length) (spl p none l) ∧ ∀ a k,a < p → k ≤ 3 → Lie a (p + l.length) (spl p (some (a,k)) l)
  | [],p => ⟨Nat.le_refl _,fun a k h hk => ⟨Nat.le_refl _,h,Nat.le_refl _,hk,Nat.le_refl _⟩⟩
  | c :: r,p => by
    obtain ⟨i1,i2⟩ := spl_lie r (p + 1)
    have e : p + 1 + r.length = p + (c :: r).length := by simp; omega
    rw [e] at i1 i2
    have hno : Lie p (p + (c :: r).length) (if c = 32 then spl (p + 1) none r else spl (p + 1) (some (p,kd c)) r) := by
      split
      · exact i1.mono (by omega)
      · exact i2 p (kd c) (by omega) (kd_le c)
    refine ⟨by rw [spl_none_cons]; exact hno,fun a k h hk => ?_⟩
    unfold spl
    split
    · exact i2 a k (by omega) hk
    · exact ⟨Nat.le_refl _,h,Nat.le_add_right _ _,hk,hno⟩
theorem toks_lie (s : List UInt8) : Lie 0 s.length (toks s) := by
  have := (spl_lie s 0).1
  rwa [Nat.zero_add] at this
theorem Lie.len {lo hi : Nat} : ∀ {l : List Tok},Lie lo hi l → l.length + lo ≤ hi
  | [],h => by simpa [Lie] using h
  | t :: r,h => by
    have := h.2.2.2.2.len
    have := h.1
    have := h.2.1
    simp; omega
theorem toks_len (s : List UInt8) : (toks s).length ≤ s.length := by have := (toks_lie s).len; omega
def badAt (s : List UInt8) (i : Nat) : Bool := decide (gt s i < 32) || decide (126 < gt s i) || (decide (gt s i = 32) && (decide (i = 0) || decide (i + 1 = s.length) || decide (gt s (i - 1) = 32)))
def bad (s : List UInt8) : Bool := (List.range s.length).any (badAt s)
def validE (s : List UInt8) : Nat := if 4096 < s.length then 4 else if bad s = true then 2 else if s = [] then 2 else if 256 < (toks s).length then 4 else 0
def partT (s : List UInt8) (f t : Nat) : List UInt8 := (s.drop (gt (toks s) f).a).take ((gt (toks s) (t - 1)).e - (gt (toks s) f).a)
def part (s : List UInt8) (f t : Int) : List UInt8 := if f < 0 ∨ t ≤ f ∨ ((toks s).length : Int) < t then [] else partT s f.toNat t.toNat
def ofK (k : Nat) (l : List Tok) : List Nat := (List.range l.length).filter fun i => decide ((gt l i).k = k)
def marksT (s : List UInt8) : List Nat := ofK 3 (toks s)
end Go.Sx
namespace Go.Sx
open Go.RowKit Go.Proofs
set_option maxRecDepth 10000
def tC (t : Tok) : List C := [.val (nI t.a),.val (nI t.e),.val (nI t.k)]
instance : Cel tC 3 := ⟨fun _ => rfl,fun _ => rfl,by decide,fun _ _ => rfl⟩
instance : Fla tC := ⟨fun _ => rfl⟩
instance : Inj tC := ⟨fun a b h => by
  cases a; cases b
  simp only [tC,List.cons.injEq,C.val.injEq,nI_inj,and_true] at h
  obtain ⟨rfl,rfl,rfl⟩ := h; rfl⟩
theorem bsA_tok (u : TypeDesc) (y : Nat) (z : List Value) (a e k : Nat) (hz : z.length = 3) (h1 : z.all (·.oneCell') = true) : bsA (some ⟨u,3,y,z⟩) 1 [(0,.agg [.val (nI a),.val (nI e),.val (nI k)])] = some (vp (sl tC .full [⟨a,e,k⟩])) := by
  unfold bsA
  simp only [hz,h1]
  rw [if_pos ⟨by decide,by decide,trivial,trivial⟩]
  have hr : (repZero z 1).length = 3 := by simp [repZero,hz]
  unfold lay
  have hc : C.cells? (.agg [.val (nI a),.val (nI e),.val (nI k)]) = some [.val (nI a),.val (nI e),.val (nI k)] := rfl
  simp only [hc]
  rw [if_pos ⟨rfl,by omega⟩]
  unfold lay
  simp only [Option.map_some,splice,Nat.zero_mul,List.take_zero,List.nil_append,Nat.zero_add]
  rw [List.drop_of_length_le (by rw [hr]; exact Nat.le_refl _),List.append_nil]
  rfl
theorem tC_noR (t : Tok) : List.map C.noR (tC t) = tC t := rfl
theorem wrc3_t (a b c : C) (t : Tok) : wrc [a,b,c] 0 (tC t) = some (tC t,.val undef) := rfl
theorem bsA_nI1 (u : TypeDesc) (y : Nat) (v : Value) (i : Nat) (h : v.oneCell' = true) : bsA (some ⟨u,1,y,[v]⟩) 1 [(0,.val (nI i))] = some (vp (sl nC .full [i])) := by
  rw [bsA_one u y 1 v _ h (by decide)]; rfl
theorem rdc_tC_2 (x : Tok) : rdc (tC x) 2 = some (.val (nI x.k)) := rfl
theorem rda_cltC (l : List Tok) (k : Nat) (h : k < l.length) : rda (cl tC l) (k * 3) 3 = some (.agg (tC (gt l k))) := by
  have := rdaE tC l k 0 3 h (by decide)
  rw [Nat.add_zero] at this
  exact this
theorem stB_tC (fs : Array Field) (b o y : Nat) (z : List Value) (x : Tok) : stB (some ⟨.struct fs,3,y,z⟩) b o (some (tC x)) = some (.wr b (fun cells => wrc cells o (tC x)) none) := rfl
theorem fa143_2 (b o : Nat) : fieldAddrPlan Tryd.prog 143 (.bp b o) 2 = some (vp (.bp b (o + 2))) := @faG Tryd.prog 143 2 3 2 _ _ _ _ _ _ td143 rfl rfl rfl td3 (by decide) b o
attribute [go_sem] bsA_tok rdc_tC_2 stB_tC fa143_2
attribute [go_sem high] tC_noR wrc3_t bsA_nI1 rda_cltC
end Go.Sx
namespace Go.Sx
open Go.RowKit Go.Proofs
set_option maxRecDepth 100000
set_option maxHeartbeats 8000000
end Go.Sx
namespace Go.Sx
open Go.RowKit Go.Proofs
set_option maxRecDepth 100000
set_option maxHeartbeats 8000000
end Go.Sx
namespace Go.Sx
open Go.RowKit Go.Proofs
set_option maxRecDepth 100000
set_option maxHeartbeats 8000000
def endT (s : List UInt8) (i : Nat) : Nat := i + 1 + rnL (kd (gt s i)) (s.drop (i + 1))
theorem endT_le (s : List UInt8) (i : Nat) (h : i < s.length) : i < endT s i ∧ endT s i ≤ s.length := by
  unfold endT
  have := rnL_le (kd (gt s i)) (s.drop (i + 1))
  rw [List.length_drop] at this
  omega
theorem rnL_go {s : List UInt8} {k j : Nat} (hk : k < 2) (h : j < s.length) (he : kd (gt s j) = k) : j + 1 + rnL k (s.drop (j + 1)) = j + rnL k (s.drop j) := by
  have e : s[j] = gt s j := by simp [gt,List.getD,List.getElem?_eq_getElem h]
  rw [List.drop_eq_getElem_cons h,e]
  show _ = j + (if k < 2 ∧ kd (gt s j) = k then _ else 0)
  rw [if_pos ⟨hk,he⟩]; omega
theorem rnL_stop {s : List UInt8} {k j : Nat} (h : ¬ (k < 2 ∧ j < s.length ∧ kd (gt s j) = k)) : rnL k (s.drop j) = 0 := by
  by_cases hj : j < s.length
  · have e : s[j] = gt s j := by simp [gt,List.getD,List.getElem?_eq_getElem hj]
    rw [List.drop_eq_getElem_cons hj,e]
    show (if k < 2 ∧ kd (gt s j) = k then _ else 0) = 0
    exact if_neg (fun q => h ⟨q.1,hj,q.2⟩)
  · rw [List.drop_of_length_le (by omega)]; rfl
theorem spl_at {s : List UInt8} {i : Nat} (h : i < s.length) (hc : gt s i ≠ 32) : spl i none (s.drop i) = ⟨i,endT s i,kd (gt s i)⟩ :: spl (endT s i) none (s.drop (endT s i)) := by
  have e : s[i] = gt s i := by simp [gt,List.getD,List.getElem?_eq_getElem h]
  rw [List.drop_eq_getElem_cons h,e,spl_tok _ _ _ hc,List.drop_drop]; rfl
theorem spl_bl {s : List UInt8} {i : Nat} (h : i < s.length) (hc : gt s i = 32) : spl i none (s.drop i) = spl (i + 1) none (s.drop (i + 1)) := by
  have e : s[i] = gt s i := by simp [gt,List.getD,List.getElem?_eq_getElem h]
  rw [List.drop_eq_getElem_cons h,e,hc,spl_blank]
theorem splOK {s : List UInt8} {i : Nat} {out : List Tok} (h : i < s.length) (hl : out.length ≤ i) (hr : out ++ spl i none (s.drop i) = toks s) :
    (if gt s i = 32 then (i + 1,out) else (endT s i,out ++ [⟨i,endT s i,kd (gt s i)⟩])).1 ≤ s.length ∧ (if gt s i = 32 then (i + 1,out) else (endT s i,out ++ [⟨i,endT s i,kd (gt s i)⟩])).2.length ≤ (if gt s i = 32 then (i + 1,out) else (endT s i,out ++ [⟨i,endT s i,kd (gt s i)⟩])).1 ∧
    (if gt s i = 32 then (i + 1,out) else (endT s i,out ++ [⟨i,endT s i,kd (gt s i)⟩])).2 ++ spl (if gt s i = 32 then (i + 1,out) else (endT s i,out ++ [⟨i,endT s i,kd (gt s i)⟩])).1 none (s.drop (if gt s i = 32 then (i + 1,out) else (endT s i,out ++ [⟨i,endT s i,kd (gt s i)⟩])).1) = toks s := by
  split
  · rename_i hb
    exact ⟨h,Nat.le_succ_of_le hl,by rw [← spl_bl h hb]; exact hr⟩
  · rename_i hb
    have := endT_le s i h
    refine ⟨this.2,?_,?_⟩
    · simp only [List.length_append,List.length_singleton]; omega
    · rw [List.append_assoc,List.singleton_append,← spl_at h hb]; exact hr
theorem rnL_ok {s : List UInt8} {i j : Nat} (h2 : kd (gt s i) < 2) (h3 : j < s.length) (h : kd (gt s j) = kd (gt s i)) (hr : j + rnL (kd (gt s i)) (s.drop j) = endT s i) : j + 1 + rnL (kd (gt s i)) (s.drop (j + 1)) = endT s i := by rw [rnL_go h2 h3 h]; exact hr
theorem X_fc100 {p : Prop} (e : p := by intro KZ hZ; simp -implicitDefEqProofs (disch := first | omega | (simp only [go_sem,lA,lD,lT] <;> omega) | decide) only [go_sem,↓reduceIte,Nat.reduceEqDiff,reduceCtorEq,Nat.reduceLT,Nat.reduceBEq,Nat.reduceAdd,a1,a2,a3,a4,a5,a6,hy]; with_reducible exact hZ) : p := e
theorem F_fc100 {p : Prop} (e : p := by simp -implicitDefEqProofs (disch := first | omega | (simp only [go_sem,lA,lD,lT] <;> omega) | decide) only [go_sem,↓reduceIte,Nat.reduceEqDiff,reduceCtorEq]; all_goals (exact congrArg (fun z => some (C.val (nI z))) (by unfold kd; ((all_goals (try simp only [UInt8.le_iff_toNat_le,← UInt8.toNat_inj,UInt8.reduceToNat,UInt8.reduceOfNat] at a1)); (all_goals (try simp only [UInt8.le_iff_toNat_le,← UInt8.toNat_inj,UInt8.reduceToNat,UInt8.reduceOfNat] at a2)); (all_goals (try simp only [UInt8.le_iff_toNat_le,← UInt8.toNat_inj,UInt8.reduceToNat,UInt8.reduceOfNat] at a3)); (all_goals (try simp only [UInt8.le_iff_toNat_le,← UInt8.toNat_inj,UInt8.reduceToNat,UInt8.reduceOfNat] at a4)); (all_goals (try simp only [UInt8.le_iff_toNat_le,← UInt8.toNat_inj,UInt8.reduceToNat,UInt8.reduceOfNat] at a5)); (all_goals (try simp only [UInt8.le_iff_toNat_le,← UInt8.toNat_inj,UInt8.reduceToNat,UInt8.reduceOfNat] at a6)); (all_goals (try simp only [UInt8.le_iff_toNat_le,← UInt8.toNat_inj,UInt8.reduceToNat,UInt8.reduceOfNat] at hc25)); simp only [UInt8.le_iff_toNat_le,← UInt8.toNat_inj,UInt8.reduceToNat,UInt8.reduceOfNat]; (repeat' split); (all_goals first | rfl | omega))))) : p := e
theorem fc100 {gl : Nat → C} {M : Nat} {pu : Nat → List C → Option C} (hcx : CxOK (cxP gl M pu)) (c : UInt8) : FC Tryd.prog gl 100 [.val (w8 c)] [] (.val (nI (kd c))) [] := by
 replace hcx := hcx.reN (M := 28)
 refine FC.ofA (cx := cxP gl 28 pu) (rs := [.tmp 2]) rfl Tryd.func100 rfl rfl rfl (by simp only [List.length_cons,List.length_nil]; decide) (by simp only [go_sem]) ?_
 simp only [ini,go_sem]
 have a1 := True.intro
 have a2 := True.intro
 have a3 := True.intro
 have a4 := True.intro
 have a5 := True.intro
 have a6 := True.intro
 have hy := True.intro
 refine Tr.w hcx [] _ [] rfl rfl rfl ?_ X_fc100
 refine Tr.seqK fun K1 hK1 => ?_
 refine Tr.blk ?_
 by_cases a1 : UInt8.ofNat 97 ≤ c
 ·
  by_cases a2 : c ≤ UInt8.ofNat 122
  ·
   refine Tr.w hcx [1000017] [some 4,some 5,some 6,some 7,some 8,some 9,some 10,some 11,some 12,some 13,some 14,some 15,some 16,some 17,some 3] [] rfl rfl rfl ?_ X_fc100
   refine Tr.cT rfl ?_
   refine Tr.w hcx [] _ [] rfl rfl rfl ?_ X_fc100
   exact Tr.ret F_fc100
  by_cases a3 : UInt8.ofNat 65 ≤ c
  ·
   by_cases a4 : c ≤ UInt8.ofNat 90
   ·
    refine Tr.w hcx [1000017] [some 4,some 5,some 6,some 7,some 8,some 9,some 10,some 11,some 12,some 13,some 14,some 15,some 16,some 17,some 3] [] rfl rfl rfl ?_ X_fc100
    refine Tr.cT rfl ?_
    refine Tr.w hcx [] _ [] rfl rfl rfl ?_ X_fc100
    exact Tr.ret F_fc100
   refine Tr.w hcx [1000017] [some 4,some 5,some 6,some 7,some 8,some 9,some 10,some 11,some 12,some 13,some 14,some 15,some 16,some 17,some 3] [] rfl rfl rfl ?_ X_fc100
   refine Tr.cF rfl ?_
   by_cases a5 : UInt8.ofNat 48 ≤ c
   ·
    by_cases a6 : c ≤ UInt8.ofNat 57
    ·
     refine Tr.w hcx [1000024] [some 19,some 20,some 21,some 22,some 23,some 24,some 18] [] rfl rfl rfl ?_ X_fc100
     refine Tr.cT rfl ?_
     refine Tr.w hcx [] _ [] rfl rfl rfl ?_ X_fc100
     exact Tr.ret F_fc100
    refine Tr.w hcx [1000024] [some 19,some 20,some 21,some 22,some 23,some 24,some 18] [] rfl rfl rfl ?_ X_fc100
    refine Tr.cF rfl ?_
    refine Tr.w hcx [1000027] _ [] rfl rfl rfl ?_ X_fc100
    refine Tr.k [25] ?_
    refine Tr.cD rfl (fun hc25 => ?_) (fun hc25 => ?_)
    ·
     refine Tr.w hcx [] _ [] rfl rfl rfl ?_ X_fc100
     exact Tr.ret F_fc100
    refine Tr.skip ?_
    refine hK1 _ ?_
    refine Tr.w hcx [] _ [] rfl rfl rfl ?_ X_fc100
    exact Tr.ret F_fc100
   refine Tr.w hcx [1000024] [some 19,some 20,some 21,some 22,some 23,some 24,some 18] [] rfl rfl rfl ?_ X_fc100
   refine Tr.cF rfl ?_
   refine Tr.w hcx [1000027] _ [] rfl rfl rfl ?_ X_fc100
   refine Tr.k [25] ?_
   refine Tr.cD rfl (fun hc25 => ?_) (fun hc25 => ?_)
   ·
    refine Tr.w hcx [] _ [] rfl rfl rfl ?_ X_fc100
    exact Tr.ret F_fc100
   refine Tr.skip ?_
   refine hK1 _ ?_
   refine Tr.w hcx [] _ [] rfl rfl rfl ?_ X_fc100
   exact Tr.ret F_fc100
  refine Tr.w hcx [1000017] [some 4,some 5,some 6,some 7,some 8,some 9,some 10,some 11,some 12,some 13,some 14,some 15,some 16,some 17,some 3] [] rfl rfl rfl ?_ X_fc100
  refine Tr.cF rfl ?_
  by_cases a5 : UInt8.ofNat 48 ≤ c
  ·
   by_cases a6 : c ≤ UInt8.ofNat 57
   ·
    refine Tr.w hcx [1000024] [some 19,some 20,some 21,some 22,some 23,some 24,some 18] [] rfl rfl rfl ?_ X_fc100
    refine Tr.cT rfl ?_
    refine Tr.w hcx [] _ [] rfl rfl rfl ?_ X_fc100
    exact Tr.ret F_fc100
   refine Tr.w hcx [1000024] [some 19,some 20,some 21,some 22,some 23,some 24,some 18] [] rfl rfl rfl ?_ X_fc100
   refine Tr.cF rfl ?_
   refine Tr.w hcx [1000027] _ [] rfl rfl rfl ?_ X_fc100
   refine Tr.k [25] ?_
   refine Tr.cD rfl (fun hc25 => ?_) (fun hc25 => ?_)
   ·
    refine Tr.w hcx [] _ [] rfl rfl rfl ?_ X_fc100
    exact Tr.ret F_fc100
   refine Tr.skip ?_
   refine hK1 _ ?_
   refine Tr.w hcx [] _ [] rfl rfl rfl ?_ X_fc100
   exact Tr.ret F_fc100
  refine Tr.w hcx [1000024] [some 19,some 20,some 21,some 22,some 23,some 24,some 18] [] rfl rfl rfl ?_ X_fc100
  refine Tr.cF rfl ?_
  refine Tr.w hcx [1000027] _ [] rfl rfl rfl ?_ X_fc100
  refine Tr.k [25] ?_
  refine Tr.cD rfl (fun hc25 => ?_) (fun hc25 => ?_)
  ·
   refine Tr.w hcx [] _ [] rfl rfl rfl ?_ X_fc100
   exact Tr.ret F_fc100
  refine Tr.skip ?_
  refine hK1 _ ?_
  refine Tr.w hcx [] _ [] rfl rfl rfl ?_ X_fc100
  exact Tr.ret F_fc100
 by_cases a3 : UInt8.ofNat 65 ≤ c
 ·
  by_cases a4 : c ≤ UInt8.ofNat 90
  ·
   refine Tr.w hcx [1000017] [some 4,some 5,some 6,some 7,some 8,some 9,some 10,some 11,some 12,some 13,some 14,some 15,some 16,some 17,some 3] [] rfl rfl rfl ?_ X_fc100
   refine Tr.cT rfl ?_
   refine Tr.w hcx [] _ [] rfl rfl rfl ?_ X_fc100
   exact Tr.ret F_fc100
  refine Tr.w hcx [1000017] [some 4,some 5,some 6,some 7,some 8,some 9,some 10,some 11,some 12,some 13,some 14,some 15,some 16,some 17,some 3] [] rfl rfl rfl ?_ X_fc100
  refine Tr.cF rfl ?_
  by_cases a5 : UInt8.ofNat 48 ≤ c
  ·
   by_cases a6 : c ≤ UInt8.ofNat 57
   ·
    refine Tr.w hcx [1000024] [some 19,some 20,some 21,some 22,some 23,some 24,some 18] [] rfl rfl rfl ?_ X_fc100
    refine Tr.cT rfl ?_
    refine Tr.w hcx [] _ [] rfl rfl rfl ?_ X_fc100
    exact Tr.ret F_fc100
   refine Tr.w hcx [1000024] [some 19,some 20,some 21,some 22,some 23,some 24,some 18] [] rfl rfl rfl ?_ X_fc100
   refine Tr.cF rfl ?_
   refine Tr.w hcx [1000027] _ [] rfl rfl rfl ?_ X_fc100
   refine Tr.k [25] ?_
   refine Tr.cD rfl (fun hc25 => ?_) (fun hc25 => ?_)
   ·
    refine Tr.w hcx [] _ [] rfl rfl rfl ?_ X_fc100
    exact Tr.ret F_fc100
   refine Tr.skip ?_
   refine hK1 _ ?_
   refine Tr.w hcx [] _ [] rfl rfl rfl ?_ X_fc100
   exact Tr.ret F_fc100
  refine Tr.w hcx [1000024] [some 19,some 20,some 21,some 22,some 23,some 24,some 18] [] rfl rfl rfl ?_ X_fc100
  refine Tr.cF rfl ?_
  refine Tr.w hcx [1000027] _ [] rfl rfl rfl ?_ X_fc100
  refine Tr.k [25] ?_
  refine Tr.cD rfl (fun hc25 => ?_) (fun hc25 => ?_)
  ·
   refine Tr.w hcx [] _ [] rfl rfl rfl ?_ X_fc100
   exact Tr.ret F_fc100
  refine Tr.skip ?_
  refine hK1 _ ?_
  refine Tr.w hcx [] _ [] rfl rfl rfl ?_ X_fc100
  exact Tr.ret F_fc100
 refine Tr.w hcx [1000017] [some 4,some 5,some 6,some 7,some 8,some 9,some 10,some 11,some 12,some 13,some 14,some 15,some 16,some 17,some 3] [] rfl rfl rfl ?_ X_fc100
 refine Tr.cF rfl ?_
 by_cases a5 : UInt8.ofNat 48 ≤ c
 ·
  by_cases a6 : c ≤ UInt8.ofNat 57
  ·
   refine Tr.w hcx [1000024] [some 19,some 20,some 21,some 22,some 23,some 24,some 18] [] rfl rfl rfl ?_ X_fc100
   refine Tr.cT rfl ?_
   refine Tr.w hcx [] _ [] rfl rfl rfl ?_ X_fc100
   exact Tr.ret F_fc100
  refine Tr.w hcx [1000024] [some 19,some 20,some 21,some 22,some 23,some 24,some 18] [] rfl rfl rfl ?_ X_fc100
  refine Tr.cF rfl ?_
  refine Tr.w hcx [1000027] _ [] rfl rfl rfl ?_ X_fc100
  refine Tr.k [25] ?_
  refine Tr.cD rfl (fun hc25 => ?_) (fun hc25 => ?_)
  ·
   refine Tr.w hcx [] _ [] rfl rfl rfl ?_ X_fc100
   exact Tr.ret F_fc100
  refine Tr.skip ?_
  refine hK1 _ ?_
  refine Tr.w hcx [] _ [] rfl rfl rfl ?_ X_fc100
  exact Tr.ret F_fc100
 refine Tr.w hcx [1000024] [some 19,some 20,some 21,some 22,some 23,some 24,some 18] [] rfl rfl rfl ?_ X_fc100
 refine Tr.cF rfl ?_
 refine Tr.w hcx [1000027] _ [] rfl rfl rfl ?_ X_fc100
 refine Tr.k [25] ?_
 refine Tr.cD rfl (fun hc25 => ?_) (fun hc25 => ?_)
 ·
  refine Tr.w hcx [] _ [] rfl rfl rfl ?_ X_fc100
  exact Tr.ret F_fc100
 refine Tr.skip ?_
 refine hK1 _ ?_
 refine Tr.w hcx [] _ [] rfl rfl rfl ?_ X_fc100
 exact Tr.ret F_fc100
theorem X_fc99 {p : Prop} (e : p := by intro KZ hZ; simp -implicitDefEqProofs (disch := first | omega | (simp only [go_sem,lA,lD,lT] <;> omega) | decide) only [go_sem,↓reduceIte,Nat.reduceEqDiff,reduceCtorEq,Nat.reduceLT,Nat.reduceBEq,Nat.reduceAdd,h100,b1,b2,b3,hy]; with_reducible exact hZ) : p := e
theorem F_fc99 {p : Prop} (e : p := by simp -implicitDefEqProofs (disch := first | omega | (simp only [go_sem,lA,lD,lT] <;> omega) | decide) only [go_sem,↓reduceIte,Nat.reduceEqDiff,reduceCtorEq]; all_goals (exact congrArg (fun z => some (C.val (nI z))) (by rw [← hr,rnL_stop (by intro hh; first | exact b3 hh.2.1 | omega)]; rfl))) : p := e
theorem fc99 {gl : Nat → C} {M : Nat} {pu : Nat → List C → Option C} (hcx : CxOK (cxP gl M pu)) (h100 : ∀ c : UInt8,pu 100 [.val (w8 c)] = some (.val (nI (kd c)))) (s : List UInt8) (i : Nat) (hs : i < s.length ∧ s.length ≤ 1000000) : FC Tryd.prog gl 99 [.val (nI i),.kp [.val (str s)]] [] (.val (nI (endT s i))) [] := by
 replace hcx := hcx.reN (M := 35)
 refine FC.ofA (cx := cxP gl 35 pu) (rs := [.tmp 3]) rfl Tryd.func99 rfl rfl rfl (by simp only [List.length_cons,List.length_nil]; decide) (by simp only [go_sem]) ?_
 simp only [ini,go_sem]
 have b1 := True.intro
 have b2 := True.intro
 have b3 := True.intro
 have hy := True.intro
 refine Tr.w hcx [] _ [] rfl rfl rfl ?_ X_fc99
 refine Tr.w hcx [1000009] _ [] rfl rfl rfl ?_ X_fc99
 refine Tr.w hcx [1000011] _ [] rfl rfl rfl ?_ X_fc99
 refine Tr.k [1,4,5] ?_
 refine Tr.seqK fun K1 hK1 => ?_
 refine Tr.blk ?_
 refine Tr.loopI (α := Nat) (fun a => [(1,?v1_1),(4,?v4_1),(5,.val (nI a))]) (fun a => ?h_1) (fun a => i < a ∧ a ≤ s.length ∧ a + rnL (kd (gt s i)) (s.drop a) = endT s i) (fun a => s.length - a) (i + 1) ⟨Nat.lt_succ_self _,hs.1,rfl⟩ ?le_1 ?hh_1 ?bd_1
 case hh_1 => exact rfl
 case le_1 => exact LT
 rintro j ⟨hj,hj2,hr⟩
 refine Tr.seqK fun K2 hK2 => ?_
 by_cases b1 : kd (gt s i) = 0
 ·
  by_cases b3 : j < s.length
  ·
   refine Tr.w hcx [] [some 12,some 13,some 14,some 15,some 16,some 17,some 18,some 19,some 20,some 21,some 22,some 23,some 24,some 25,some 26,some 27,some 28,some 29,some 30,some 31] [] rfl rfl rfl ?_ X_fc99
   refine Tr.cD rfl (fun hc31 => ?_) (fun hc31 => ?_)
   ·
    have b12 : kd (gt s i) < 2 := by omega
    refine Tr.skip ?_
    refine hK2 _ ?_
    refine Tr.blk ?_
    refine Tr.v hcx [1000033] _ [] rfl rfl rfl ?_ X_fc99
    exact ⟨j + 1,⟨⟨by omega,by omega,rnL_ok (by omega) b3 (by omega) hr⟩,O1⟩,LT,rfl⟩
   refine Tr.exit ?_
   refine hK1 _ ?_
   refine Tr.w hcx [1000034] _ [] rfl rfl rfl ?_ X_fc99
   exact Tr.ret F_fc99
  refine Tr.w hcx [] [some 12,some 13,some 14,some 15,some 16,some 17,some 18,some 19,some 20,some 21,some 22,some 23,some 24,some 25,some 26,some 27,some 28,some 29,some 30,some 31] [] rfl rfl rfl ?_ X_fc99
  refine Tr.cF rfl ?_
  refine Tr.exit ?_
  refine hK1 _ ?_
  refine Tr.w hcx [1000034] _ [] rfl rfl rfl ?_ X_fc99
  exact Tr.ret F_fc99
 by_cases b2 : kd (gt s i) = 1
 ·
  by_cases b3 : j < s.length
  ·
   refine Tr.w hcx [] [some 12,some 13,some 14,some 15,some 16,some 17,some 18,some 19,some 20,some 21,some 22,some 23,some 24,some 25,some 26,some 27,some 28,some 29,some 30,some 31] [] rfl rfl rfl ?_ X_fc99
   refine Tr.cD rfl (fun hc31 => ?_) (fun hc31 => ?_)
   ·
    have b12 : kd (gt s i) < 2 := by omega
    refine Tr.skip ?_
    refine hK2 _ ?_
    refine Tr.blk ?_
    refine Tr.v hcx [1000033] _ [] rfl rfl rfl ?_ X_fc99
    exact ⟨j + 1,⟨⟨by omega,by omega,rnL_ok (by omega) b3 (by omega) hr⟩,O1⟩,LT,rfl⟩
   refine Tr.exit ?_
   refine hK1 _ ?_
   refine Tr.w hcx [1000034] _ [] rfl rfl rfl ?_ X_fc99
   exact Tr.ret F_fc99
  refine Tr.w hcx [] [some 12,some 13,some 14,some 15,some 16,some 17,some 18,some 19,some 20,some 21,some 22,some 23,some 24,some 25,some 26,some 27,some 28,some 29,some 30,some 31] [] rfl rfl rfl ?_ X_fc99
  refine Tr.cF rfl ?_
  refine Tr.exit ?_
  refine hK1 _ ?_
  refine Tr.w hcx [1000034] _ [] rfl rfl rfl ?_ X_fc99
  exact Tr.ret F_fc99
 refine Tr.w hcx [] [some 12,some 13,some 14,some 15,some 16,some 17,some 18,some 19,some 20,some 21,some 22,some 23,some 24,some 25,some 26,some 27,some 28,some 29,some 30,some 31] [] rfl rfl rfl ?_ X_fc99
 refine Tr.cF rfl ?_
 refine Tr.exit ?_
 refine hK1 _ ?_
 refine Tr.w hcx [1000034] _ [] rfl rfl rfl ?_ X_fc99
 exact Tr.ret F_fc99
theorem X_fc62 {p : Prop} (e : p := by intro KZ hZ; simp -implicitDefEqProofs (disch := first | omega | (simp only [go_sem,lA,lD,lT] <;> omega) | decide) only [go_sem,↓reduceIte,Nat.reduceEqDiff,reduceCtorEq,Nat.reduceLT,Nat.reduceBEq,Nat.reduceAdd,h99,h100,hno,hy]; with_reducible exact hZ) : p := e
theorem F_fc62 {p : Prop} (e : p := by simp -implicitDefEqProofs (disch := first | omega | (simp only [go_sem,lA,lD,lT] <;> omega) | decide) only [go_sem,↓reduceIte,Nat.reduceEqDiff,reduceCtorEq]; all_goals (rw [← hr]; simp [spl])) : p := e
theorem fc62 {gl : Nat → C} {M : Nat} {pu : Nat → List C → Option C} (hcx : CxOK (cxP gl M pu)) (h99 : ∀ (s : List UInt8) (i : Nat),i < s.length ∧ s.length ≤ 1000000 → pu 99 [.val (nI i),.kp [.val (str s)]] = some (.val (nI (endT s i)))) (h100 : ∀ c : UInt8,pu 100 [.val (w8 c)] = some (.val (nI (kd c)))) (hno : ∀ (g : Nat) (xs : List C),refy xs = true → pu g xs = none) (s : List UInt8) (hs : s.length ≤ 1000000) : FC Tryd.prog gl 62 [.val (str s)] [] (sl tC (.own 3) (toks s)) [] := by
 replace hcx := hcx.reN (M := 33)
 refine FC.ofA (cx := cxP gl 33 pu) (rs := [.tmp 2]) rfl Tryd.func62 rfl rfl rfl (by simp only [List.length_cons,List.length_nil]; decide) (by simp only [go_sem]) ?_
 simp only [ini,go_sem]
 have hy := True.intro
 refine Tr.w hcx [] _ [none] rfl rfl rfl ?_ X_fc62
 refine Tr.w hcx [] _ [] rfl rfl rfl ?_ X_fc62
 refine Tr.w hcx [1000007] _ [] rfl rfl rfl ?_ X_fc62
 refine Tr.seqK fun K1 hK1 => ?_
 refine Tr.w hcx [] _ [] rfl rfl rfl ?_ X_fc62
 refine Tr.k [1,3,4,5] ?_
 refine Tr.blk ?_
 refine Tr.loopI (α := (Nat × List Tok)) (fun a => [(1,?v1_1),(3,sl tC (.own 3) a.2),(4,?v4_1),(5,.val (nI a.1))]) (fun a => [some [.val (str s)]]) (fun a => a.1 ≤ s.length ∧ a.2.length ≤ a.1 ∧ a.2 ++ spl a.1 none (s.drop a.1) = toks s) (fun a => s.length - a.1) ((0,[])) ⟨Nat.zero_le _,Nat.le_refl _,rfl⟩ ?le_1 ?hh_1 ?bd_1
 case hh_1 => exact rfl
 case le_1 => exact LT
 rintro ⟨i,out⟩ ⟨hi,hlen,hr⟩
 dsimp only at *
 refine Tr.seqK fun K2 hK2 => ?_
 refine Tr.w hcx [] _ [] rfl rfl rfl ?_ X_fc62
 refine Tr.cD rfl (fun hc11 => ?_) (fun hc11 => ?_)
 ·
  refine Tr.skip ?_
  refine hK2 _ ?_
  refine Tr.blk ?_
  refine Tr.seqK fun K3 hK3 => ?_
  refine Tr.w hcx [] _ [] rfl rfl rfl ?_ X_fc62
  refine Tr.cD rfl (fun hc15 => ?_) (fun hc15 => ?_)
  ·
   have hc15 : gt s i = 32 := hc15
   refine Tr.w hcx [1000017] _ [] rfl rfl rfl ?_ X_fc62
   refine Tr.exit ?_
   refine ⟨if gt s i = 32 then (i + 1,out) else (endT s i,out ++ [⟨i,endT s i,kd (gt s i)⟩]),⟨splOK hc11 hlen hr,by have := endT_le s i hc11; split <;> simp only [] <;> omega⟩,?_,rfl⟩
   (simp only [Le_nil,Le_cons,↓A_cons,↓reduceIte,Nat.reduceEqDiff,CLe_refl,CLe_top,CLe_full,CLe_nil,CLe_own,and_true,true_and]; all_goals (repeat' first | exact CLe.refl _ | exact True.intro | (refine CLe_sln ?_; first | rfl | (simp only [List.take_zero]; done)) | exact CLe_nI (by omega) | exact CLe_int (by omega) | exact CLe_inI (by omega) | exact CLe_nIi (by omega) | with_reducible apply And.intro))
   all_goals (first | rw [if_pos hc15] | rw [if_neg hc15])
   all_goals exact CLe.refl _
  have hc15 : ¬ gt s i = 32 := hc15
  refine Tr.skip ?_
  refine hK3 _ ?_
  refine Tr.w hcx [1000020] _ [] rfl rfl rfl ?_ X_fc62
  refine Tr.k [1,3,4,5,6] ?_
  refine Tr.w hcx [21,1000030] _ [] rfl rfl rfl ?_ X_fc62
  refine Tr.v hcx [1000031] _ [] rfl rfl rfl ?_ X_fc62
  refine ⟨if gt s i = 32 then (i + 1,out) else (endT s i,out ++ [⟨i,endT s i,kd (gt s i)⟩]),⟨splOK hc11 hlen hr,by have := endT_le s i hc11; split <;> simp only [] <;> omega⟩,?_,rfl⟩
  (simp only [Le_nil,Le_cons,↓A_cons,↓reduceIte,Nat.reduceEqDiff,CLe_refl,CLe_top,CLe_full,CLe_nil,CLe_own,and_true,true_and]; all_goals (repeat' first | exact CLe.refl _ | exact True.intro | (refine CLe_sln ?_; first | rfl | (simp only [List.take_zero]; done)) | exact CLe_nI (by omega) | exact CLe_int (by omega) | exact CLe_inI (by omega) | exact CLe_nIi (by omega) | with_reducible apply And.intro))
  all_goals (first | rw [if_pos hc15] | rw [if_neg hc15])
  all_goals exact CLe.refl _
 have hie : i = s.length := by omega
 subst hie
 rw [List.drop_length] at hr
 refine Tr.exit ?_
 refine hK1 _ ?_
 refine Tr.w hcx [1000032] _ [] rfl rfl rfl ?_ X_fc62
 exact Tr.ret F_fc62
end Go.Sx
namespace Go.Sx
open Go.RowKit Go.Proofs
set_option maxRecDepth 100000
set_option maxHeartbeats 8000000
def ofKp (k : Nat) (l : List Tok) (n : Nat) : List Nat := (List.range n).filter fun i => decide ((gt l i).k = k)
theorem ofKp_len (k : Nat) (l : List Tok) (n : Nat) : (ofKp k l n).length ≤ n := by
  unfold ofKp
  have := List.length_filter_le (fun i => decide ((gt l i).k = k)) (List.range n)
  simpa using this
theorem ofKp_T {k : Nat} {l : List Tok} {n : Nat} (h : (gt l n).k = k) : ofKp k l n ++ [n] = ofKp k l (n + 1) := by
  unfold ofKp; rw [List.range_succ,List.filter_append]; simp [h]
theorem ofKp_F {k : Nat} {l : List Tok} {n : Nat} (h : ¬ (gt l n).k = k) : ofKp k l n = ofKp k l (n + 1) := by
  unfold ofKp; rw [List.range_succ,List.filter_append]; simp [h]
theorem X_fc63 {p : Prop} (e : p := by intro KZ hZ; simp -implicitDefEqProofs (disch := first | omega | (simp only [go_sem,lA,lD,lT,hb1] <;> omega) | decide) only [go_sem,↓reduceIte,Nat.reduceEqDiff,reduceCtorEq,Nat.reduceLT,Nat.reduceBEq,Nat.reduceAdd,hy]; with_reducible exact hZ) : p := e
theorem F_fc63 {p : Prop} (e : p := by simp -implicitDefEqProofs (disch := first | omega | (simp only [go_sem,lA,lD,lT,hb1] <;> omega) | decide) only [go_sem,↓reduceIte,Nat.reduceEqDiff,reduceCtorEq]; all_goals (rfl)) : p := e
theorem fc63 {gl : Nat → C} {M : Nat} {pu : Nat → List C → Option C} (hcx : CxOK (cxP gl M pu)) (l : List Tok) (k : Nat) (hl : l.length ≤ 1000000) : FC Tryd.prog gl 63 [sl tC .no l,.val (nI k)] [] (sl nC (.own 1) (ofK k l)) [] := by
 replace hcx := hcx.reN (M := 25)
 refine FC.ofA (cx := cxP gl 25 pu) (rs := [.tmp 4]) rfl Tryd.func63 rfl rfl rfl (by simp only [List.length_cons,List.length_nil]; decide) (by simp only [go_sem]) ?_
 simp only [ini,go_sem]
 have hy := True.intro
 have hb1 := True.intro
 refine Tr.w hcx [] _ [] rfl rfl rfl ?_ X_fc63
 refine Tr.w hcx [] _ [] rfl rfl rfl ?_ X_fc63
 refine Tr.seqK fun K1 hK1 => ?_
 refine Tr.w hcx [] _ [] rfl rfl rfl ?_ X_fc63
 refine Tr.k [1,5,8,9,10] ?_
 refine Tr.blk ?_
 refine Tr.loopI (α := Nat) (fun a => [(1,?v1_1),(5,sl nC (.own 1) (ofKp k l a)),(8,?v8_1),(9,?v9_1),(10,.val (nI a))]) (fun a => []) (fun a => a ≤ l.length) (fun a => l.length - a) (0) ?_ ?le_1 ?hh_1 ?bd_1
 case hh_1 => exact rfl
 case le_1 => exact LT
 · omega
 rintro i hi
 have hb1 := ofKp_len k l i
 refine Tr.w hcx [] _ [] rfl rfl rfl ?_ X_fc63
 refine Tr.seqK fun K2 hK2 => ?_
 refine Tr.cD rfl (fun hc11 => ?_) (fun hc11 => ?_)
 ·
  refine Tr.skip ?_
  refine hK2 _ ?_
  refine Tr.seqK fun K3 hK3 => ?_
  refine Tr.blk ?_
  refine Tr.w hcx [1000012] _ [none] rfl rfl rfl ?_ X_fc63
  refine Tr.w hcx [] _ [] rfl rfl rfl ?_ X_fc63
  refine Tr.cD rfl (fun hc18 => ?_) (fun hc18 => ?_)
  ·
   refine Tr.v hcx [19,1000022] _ [] rfl rfl rfl ?_ X_fc63
   refine hK3 _ ?_
   refine Tr.k [1,5,8,9,10] ?_
   refine Tr.m1 hcx [] ?_
   refine Tr.v hcx [] _ [] rfl rfl rfl ?_ X_fc63
   refine ⟨i + 1,⟨by omega,O1⟩,?_,rfl⟩
   (simp only [Le_nil,Le_cons,↓A_cons,↓reduceIte,Nat.reduceEqDiff,CLe_refl,CLe_top,CLe_full,CLe_nil,CLe_own,and_true,true_and]; all_goals (repeat' first | exact CLe.refl _ | exact True.intro | (refine CLe_sln ?_; first | rfl | (simp only [List.take_zero]; done)) | exact CLe_nI (by omega) | exact CLe_int (by omega) | exact CLe_inI (by omega) | exact CLe_nIi (by omega) | with_reducible apply And.intro))
   all_goals (refine CLe_sl ?_; first | exact ofKp_T hc18 | exact ofKp_F hc18)
  refine Tr.skip ?_
  refine hK3 _ ?_
  refine Tr.k [1,5,8,9,10] ?_
  refine Tr.m1 hcx [] ?_
  refine Tr.v hcx [] _ [] rfl rfl rfl ?_ X_fc63
  refine ⟨i + 1,⟨by omega,O1⟩,?_,rfl⟩
  (simp only [Le_nil,Le_cons,↓A_cons,↓reduceIte,Nat.reduceEqDiff,CLe_refl,CLe_top,CLe_full,CLe_nil,CLe_own,and_true,true_and]; all_goals (repeat' first | exact CLe.refl _ | exact True.intro | (refine CLe_sln ?_; first | rfl | (simp only [List.take_zero]; done)) | exact CLe_nI (by omega) | exact CLe_int (by omega) | exact CLe_inI (by omega) | exact CLe_nIi (by omega) | with_reducible apply And.intro))
  all_goals (refine CLe_sl ?_; first | exact ofKp_T hc18 | exact ofKp_F hc18)
 obtain rfl : i = l.length := by omega
 refine Tr.exit ?_
 refine hK1 _ ?_
 refine Tr.w hcx [1000024] _ [] rfl rfl rfl ?_ X_fc63
 exact Tr.ret F_fc63
end Go.Sx
namespace Go.Sx
open Go.RowKit Go.Proofs
set_option maxRecDepth 100000
set_option maxHeartbeats 8000000
theorem ofK_len (k : Nat) (l : List Tok) : (ofK k l).length ≤ l.length := ofKp_len k l l.length
theorem X_fc16 {p : Prop} (e : p := by intro KZ hZ; simp -implicitDefEqProofs (disch := first | omega | (simp only [go_sem,lA,lD,lT] <;> omega) | decide) only [go_sem,↓reduceIte,Nat.reduceEqDiff,reduceCtorEq,Nat.reduceLT,Nat.reduceBEq,Nat.reduceAdd,h62,h63,hy]; with_reducible exact hZ) : p := e
theorem F_fc16 {p : Prop} (e : p := by simp -implicitDefEqProofs (disch := first | omega | (simp only [go_sem,lA,lD,lT] <;> omega) | decide) only [go_sem,↓reduceIte,Nat.reduceEqDiff,reduceCtorEq]; all_goals (rfl)) : p := e
theorem fc16 {gl : Nat → C} {M : Nat} {pu : Nat → List C → Option C} (hcx : CxOK (cxP gl M pu)) (h62 : ∀ s : List UInt8,s.length ≤ 1000000 → pu 62 [.val (str s)] = some (sl tC (.own 3) (toks s))) (h63 : ∀ (l : List Tok) (k : Nat),l.length ≤ 1000000 → pu 63 [sl tC .no l,.val (nI k)] = some (sl nC (.own 1) (ofK k l))) (s : List UInt8) (hs : s.length ≤ 1000000) : FC Tryd.prog gl 16 [.val (str s)] [] (sl nC (.own 1) (marksT s)) [] := by
 replace hcx := hcx.reN (M := 6)
 refine FC.ofA (cx := cxP gl 6 pu) (rs := [.tmp 2]) rfl Tryd.func16 rfl rfl rfl (by simp only [List.length_cons,List.length_nil]; decide) (by simp only [go_sem]) ?_
 simp only [ini,go_sem]
 have hy := True.intro
 have hT := toks_len s
 refine Tr.w hcx [] _ [] rfl rfl rfl ?_ X_fc16
 refine Tr.w hcx [1000005] _ [] rfl rfl rfl ?_ X_fc16
 exact Tr.ret F_fc16
end Go.Sx
namespace Go.Sx
open Go.RowKit Go.Proofs
set_option maxRecDepth 100000
set_option maxHeartbeats 8000000
theorem bad_T {s : List UInt8} {i : Nat} (h : i < s.length) (hb : badAt s i = true) : bad s = true := List.any_eq_true.2 ⟨i,List.mem_range.2 h,hb⟩
theorem bad_F {s : List UInt8} (h : ∀ j,j < s.length → badAt s j = false) : ¬ bad s = true := by
  intro hb
  obtain ⟨i,h1,h2⟩ := List.any_eq_true.1 hb
  rw [h i (List.mem_range.1 h1)] at h2; cases h2
theorem X_fc61 {p : Prop} (e : p := by intro KZ hZ; simp -implicitDefEqProofs (disch := first | omega | (simp only [go_sem,lA,lD,lT] <;> omega) | decide) only [go_sem,↓reduceIte,Nat.reduceEqDiff,reduceCtorEq,Nat.reduceLT,Nat.reduceBEq,Nat.reduceAdd,b1,b2,b3,b4,b5,hy]; with_reducible exact hZ) : p := e
theorem F_fc61 {p : Prop} (e : p := by simp -implicitDefEqProofs (disch := first | omega | (simp only [go_sem,lA,lD,lT] <;> omega) | decide) only [go_sem,↓reduceIte,Nat.reduceEqDiff,reduceCtorEq]; all_goals (exact congrArg (fun z => some (C.val (.bool z))) (by unfold badAt; simp_all <;> omega))) : p := e
theorem fc61 {gl : Nat → C} {M : Nat} {pu : Nat → List C → Option C} (hcx : CxOK (cxP gl M pu)) (s : List UInt8) (i : Nat) (hs : i < s.length ∧ s.length ≤ 1000000) : FC Tryd.prog gl 61 [.val (nI i),.kp [.val (str s)]] [] (.val (.bool (badAt s i))) [] := by
 replace hcx := hcx.reN (M := 38)
 refine FC.ofA (cx := cxP gl 38 pu) (rs := [.tmp 3]) rfl Tryd.func61 rfl rfl rfl (by simp only [List.length_cons,List.length_nil]; decide) (by simp only [go_sem]) ?_
 simp only [ini,go_sem]
 have b1 := True.intro
 have b2 := True.intro
 have b3 := True.intro
 have b4 := True.intro
 have b5 := True.intro
 have hy := True.intro
 refine Tr.w hcx [] _ [] rfl rfl rfl ?_ X_fc61
 refine Tr.k [0,1] ?_
 by_cases b1 : gt s i < UInt8.ofNat 32
 ·
  refine Tr.w hcx [1000037] [some 4,some 5,some 6,some 7,some 8,some 9,some 10,some 11,some 12,some 13,some 14,some 15,some 16,some 17,some 18,some 19,some 20,some 21,some 22,some 23,some 24,some 25,some 26,some 27,some 28,some 29,some 30,some 31,some 32,some 33,some 34,some 35,some 36,some 37,some 3] [] rfl rfl rfl ?_ X_fc61
  refine Tr.k [3] ?_
  exact Tr.ret F_fc61
 by_cases b2 : UInt8.ofNat 126 < gt s i
 ·
  refine Tr.w hcx [1000037] [some 4,some 5,some 6,some 7,some 8,some 9,some 10,some 11,some 12,some 13,some 14,some 15,some 16,some 17,some 18,some 19,some 20,some 21,some 22,some 23,some 24,some 25,some 26,some 27,some 28,some 29,some 30,some 31,some 32,some 33,some 34,some 35,some 36,some 37,some 3] [] rfl rfl rfl ?_ X_fc61
  refine Tr.k [3] ?_
  exact Tr.ret F_fc61
 by_cases b3 : gt s i = UInt8.ofNat 32
 ·
  have b3o := b3
  replace b3 := eq_true b3
  by_cases b4 : i = 0
  ·
   have b4o := b4
   replace b4 := eq_true b4
   refine Tr.w hcx [1000037] [some 4,some 5,some 6,some 7,some 8,some 9,some 10,some 11,some 12,some 13,some 14,some 15,some 16,some 17,some 18,some 19,some 20,some 21,some 22,some 23,some 24,some 25,some 26,some 27,some 28,some 29,some 30,some 31,some 32,some 33,some 34,some 35,some 36,some 37,some 3] [] rfl rfl rfl ?_ X_fc61
   refine Tr.k [3] ?_
   exact Tr.ret F_fc61
  have b4o := b4
  replace b4 := eq_false b4
  by_cases b5 : i = s.length - 1
  ·
   have b5o := b5
   replace b5 := eq_true b5
   refine Tr.w hcx [1000037] [some 4,some 5,some 6,some 7,some 8,some 9,some 10,some 11,some 12,some 13,some 14,some 15,some 16,some 17,some 18,some 19,some 20,some 21,some 22,some 23,some 24,some 25,some 26,some 27,some 28,some 29,some 30,some 31,some 32,some 33,some 34,some 35,some 36,some 37,some 3] [] rfl rfl rfl ?_ X_fc61
   refine Tr.k [3] ?_
   exact Tr.ret F_fc61
  have b5o := b5
  replace b5 := eq_false b5
  refine Tr.w hcx [1000037] [some 4,some 5,some 6,some 7,some 8,some 9,some 10,some 11,some 12,some 13,some 14,some 15,some 16,some 17,some 18,some 19,some 20,some 21,some 22,some 23,some 24,some 25,some 26,some 27,some 28,some 29,some 30,some 31,some 32,some 33,some 34,some 35,some 36,some 37,some 3] [] rfl rfl rfl ?_ X_fc61
  refine Tr.k [3] ?_
  exact Tr.ret F_fc61
 have b3o := b3
 replace b3 := eq_false b3
 refine Tr.w hcx [1000037] [some 4,some 5,some 6,some 7,some 8,some 9,some 10,some 11,some 12,some 13,some 14,some 15,some 16,some 17,some 18,some 19,some 20,some 21,some 22,some 23,some 24,some 25,some 26,some 27,some 28,some 29,some 30,some 31,some 32,some 33,some 34,some 35,some 36,some 37,some 3] [] rfl rfl rfl ?_ X_fc61
 refine Tr.k [3] ?_
 exact Tr.ret F_fc61
theorem X_fc15 {p : Prop} (e : p := by intro KZ hZ; simp -implicitDefEqProofs (disch := first | omega | (simp only [go_sem,lA,lD,lT] <;> omega) | decide) only [go_sem,↓reduceIte,Nat.reduceEqDiff,reduceCtorEq,Nat.reduceLT,Nat.reduceBEq,Nat.reduceAdd,h62,h61,hno,hy]; with_reducible exact hZ) : p := e
theorem F_fc15 {p : Prop} (e : p := by simp -implicitDefEqProofs (disch := first | omega | (simp only [go_sem,lA,lD,lT] <;> omega) | decide) only [go_sem,↓reduceIte,Nat.reduceEqDiff,reduceCtorEq]; all_goals (exact congrArg (fun z => some (C.val (nI z))) (by unfold validE; first | rw [if_pos hc7] | rw [if_neg hc7,if_pos (bad_T hc12 hc16)] | rw [if_neg hc7,if_neg (bad_F hA),if_pos hc18] | rw [if_neg hc7,if_neg (bad_F hA),if_neg hc18,if_pos hc21] | rw [if_neg hc7,if_neg (bad_F hA),if_neg hc18,if_neg hc21]))) : p := e
theorem fc15 {gl : Nat → C} {M : Nat} {pu : Nat → List C → Option C} (hcx : CxOK (cxP gl M pu)) (h62 : ∀ s : List UInt8,s.length ≤ 1000000 → pu 62 [.val (str s)] = some (sl tC (.own 3) (toks s))) (h61 : ∀ (s : List UInt8) (i : Nat),i < s.length ∧ s.length ≤ 1000000 → pu 61 [.val (nI i),.kp [.val (str s)]] = some (.val (.bool (badAt s i)))) (hno : ∀ (g : Nat) (xs : List C),refy xs = true → pu g xs = none) (s : List UInt8) (hs : s.length ≤ 1000000) : FC Tryd.prog gl 15 [.val (str s)] [] (.val (nI (validE s))) [] := by
 replace hcx := hcx.reN (M := 26)
 refine FC.ofA (cx := cxP gl 26 pu) (rs := [.tmp 2]) rfl Tryd.func15 rfl rfl rfl (by simp only [List.length_cons,List.length_nil]; decide) (by simp only [go_sem]) ?_
 simp only [ini,go_sem]
 have hy := True.intro
 have hT := toks_len s
 refine Tr.w hcx [] _ [none] rfl rfl rfl ?_ X_fc15
 refine Tr.seqK fun K1 hK1 => ?_
 refine Tr.w hcx [] _ [] rfl rfl rfl ?_ X_fc15
 refine Tr.cD rfl (fun hc7 => ?_) (fun hc7 => ?_)
 ·
  refine Tr.w hcx [] _ [] rfl rfl rfl ?_ X_fc15
  exact Tr.ret F_fc15
 refine Tr.skip ?_
 refine hK1 _ ?_
 refine Tr.w hcx [1000008] _ [] rfl rfl rfl ?_ X_fc15
 refine Tr.seqK fun K2 hK2 => ?_
 refine Tr.w hcx [] _ [] rfl rfl rfl ?_ X_fc15
 refine Tr.k [1,3,10,11] ?_
 refine Tr.blk ?_
 refine Tr.loopI (α := Nat) (fun a => [(1,?v1_1),(3,?v3_1),(10,?v10_1),(11,.val (nI a))]) (fun a => [some [.val (str s)]]) (fun a => a ≤ s.length ∧ ∀ j,j < a → badAt s j = false) (fun a => s.length - a) (0) ⟨Nat.zero_le _,fun j hj => absurd hj (Nat.not_lt_zero j)⟩ ?le_1 ?hh_1 ?bd_1
 case hh_1 => exact rfl
 case le_1 => exact LT
 rintro i ⟨hi,hA⟩
 refine Tr.w hcx [] _ [] rfl rfl rfl ?_ X_fc15
 refine Tr.seqK fun K3 hK3 => ?_
 refine Tr.cD rfl (fun hc12 => ?_) (fun hc12 => ?_)
 ·
  refine Tr.skip ?_
  refine hK3 _ ?_
  refine Tr.seqK fun K4 hK4 => ?_
  refine Tr.blk ?_
  refine Tr.w hcx [1000013] _ [] rfl rfl rfl ?_ X_fc15
  refine Tr.w hcx [] _ [] rfl rfl rfl ?_ X_fc15
  refine Tr.condG fun KT KF hT hF => ?_
  simp only [ev_tmp,ev_const,↓A_cons,↓reduceIte,Nat.reduceEqDiff,reduceCtorEq,condG_bool,GB_true,GB_false,decide_eq_true_eq]
  refine GB.mk (fun hc16 => hT ?_) (fun hc16 => hF ?_)
  ·
   refine Tr.w hcx [] _ [] rfl rfl rfl ?_ X_fc15
   exact Tr.ret F_fc15
  refine Tr.skip ?_
  refine hK4 _ ?_
  refine Tr.v hcx [] _ [] rfl rfl rfl ?_ X_fc15
  exact ⟨i + 1,⟨⟨by omega,fun j hj => (Nat.lt_or_eq_of_le (Nat.le_of_lt_succ hj)).elim (hA j) (fun e => e ▸ hc16)⟩,O1⟩,LT,rfl⟩
 obtain rfl : i = s.length := by omega
 refine Tr.exit ?_
 refine hK2 _ ?_
 refine Tr.seqK fun K5 hK5 => ?_
 refine Tr.blk ?_
 refine Tr.w hcx [1000020] _ [] rfl rfl rfl ?_ X_fc15
 refine Tr.cD rfl (fun hc18 => ?_) (fun hc18 => ?_)
 ·
  refine Tr.w hcx [] _ [] rfl rfl rfl ?_ X_fc15
  exact Tr.ret F_fc15
 refine Tr.w hcx [1000025] _ [] rfl rfl rfl ?_ X_fc15
 refine Tr.cD rfl (fun hc21 => ?_) (fun hc21 => ?_)
 ·
  refine Tr.w hcx [] _ [] rfl rfl rfl ?_ X_fc15
  exact Tr.ret F_fc15
 refine Tr.skip ?_
 refine hK5 _ ?_
 refine Tr.w hcx [] _ [] rfl rfl rfl ?_ X_fc15
 exact Tr.ret F_fc15
end Go.Sx
namespace Go.Sx
def aroundI (n : Int) (m : Nat) : Nat := ((if n < 0 then -(n + 1) else n).tmod (m : Int)).toNat
theorem around_int (n : Int) (m : Nat) : (((aroundI n m : Nat) : Int)) = (if n < 0 then -(n + 1) else n).tmod (m : Int) := by
  unfold aroundI
  refine Int.toNat_of_nonneg (Int.tmod_nonneg _ ?_)
  split <;> omega
theorem around_lt (n : Int) {m : Nat} (h : 0 < m) : aroundI n m < m := by
  have h1 := around_int n m
  have h2 := Int.tmod_lt_of_pos (if n < 0 then -(n + 1) else n) (b := (m : Int)) (by omega)
  omega
def atI (l : List Int) (i m : Nat) : Nat := if l.length ≤ i then 0 else aroundI (gt l i) m
theorem atI_lt (l : List Int) (i : Nat) {m : Nat} (h : 0 < m) : atI l i m < m := by
  unfold atI; split
  · exact h
  · exact around_lt _ h
def capC (c : UInt8) : UInt8 := if 97 ≤ c ∧ c ≤ 122 then c - 97 + 65 else c
def capT : List UInt8 → List UInt8
  | [] => []
  | c :: r => capC c :: r
def dresT (w : List UInt8) (n : Nat) : List UInt8 :=
  if n = 6 then capT w else if n = 7 then w ++ [44] else if n = 8 then w ++ [46] else if n = 9 then capT w ++ [46] else if n = 10 then [40] ++ w ++ [41] else if n = 11 then w ++ [63] else w
def wlist : List (List UInt8) := [[97,110,110,97],[114,111,109,101],[107,105,110,103],[116,104,101],[111,102],[111,100,101],[108,121,114,101],[120],[49,50]]
def uniT (n : Nat) : List UInt8 := dresT (gt wlist (n % 9)) (n / 9)
def textR (l : List Int) (k : Nat) : Nat → List UInt8
  | 0 => []
  | i + 1 => (if 0 < i then textR l k i ++ [32] else textR l k i) ++ uniT (atI l (k + 1 + i) 108)
def textT (l : List Int) (k : Nat) : List UInt8 := textR l k (1 + atI l k 9)
theorem gt_all {α : Type} [Inhabited α] (l : List α) (p : α → Bool) (h : l.all p = true) (i : Nat) (hi : i < l.length) : p (gt l i) = true := by
  have e : gt l i = l[i] := by simp [gt,List.getD,List.getElem?_eq_getElem hi]
  rw [e]; exact List.all_eq_true.1 h _ (List.getElem_mem hi)
def okT (p : Bool) : List UInt8 → Bool
  | [] => !p
  | c :: r => if c = 32 then !p && okT true r else decide (32 ≤ c) && decide (c ≤ 126) && okT false r
theorem okT_unit : (List.range 108).all (fun n => okT true (uniT n) && decide ((uniT n).length ≤ 7) && decide (0 < (uniT n).length)) = true := by decide +kernel
theorem okT_app : ∀ (x : List UInt8) (p : Bool) (y : List UInt8),okT p x = true → okT true y = true → okT p (x ++ 32 :: y) = true
  | [],p,y,hx,hy => by
    simp only [okT,Bool.not_eq_true'] at hx; subst hx
    simp only [List.nil_append,okT,if_pos,Bool.not_false,Bool.true_and,hy]
  | c :: r,p,y,hx,hy => by
    simp only [okT,List.cons_append] at hx ⊢
    by_cases hc : c = 32
    · rw [if_pos hc] at hx ⊢
      simp only [Bool.and_eq_true] at hx ⊢
      exact ⟨hx.1,okT_app r true y hx.2 hy⟩
    · rw [if_neg hc] at hx ⊢
      simp only [Bool.and_eq_true] at hx ⊢
      exact ⟨hx.1,okT_app r false y hx.2 hy⟩
theorem unit_ok (n : Nat) (h : n < 108) : okT true (uniT n) = true ∧ (uniT n).length ≤ 7 ∧ 0 < (uniT n).length := by
  have := List.all_eq_true.1 okT_unit n (List.mem_range.2 h)
  simp only [Bool.and_eq_true,decide_eq_true_eq] at this
  exact ⟨this.1.1,this.1.2,this.2⟩
theorem textR_ok (l : List Int) (k : Nat) : ∀ i,0 < i → okT true (textR l k i) = true ∧ (textR l k i).length ≤ 8 * i ∧ 0 < (textR l k i).length
  | 0,h => absurd h (Nat.lt_irrefl 0)
  | 1,_ => by
    have := unit_ok (atI l (k + 1 + 0) 108) (atI_lt _ _ (by decide))
    have e : textR l k 1 = uniT (atI l (k + 1 + 0) 108) := by simp [textR]
    rw [e]; exact ⟨this.1,by omega,this.2.2⟩
  | i + 2,_ => by
    obtain ⟨h1,h2,h3⟩ := textR_ok l k (i + 1) (by omega)
    have u := unit_ok (atI l (k + 1 + (i + 1)) 108) (atI_lt _ _ (by decide))
    have e : textR l k (i + 2) = textR l k (i + 1) ++ 32 :: uniT (atI l (k + 1 + (i + 1)) 108) := by
      rw [textR,if_pos (by omega)]; simp
    rw [e]
    exact ⟨okT_app _ _ _ h1 u.1,by simp; omega,by simp; omega⟩
theorem textR_len (l : List Int) (k i : Nat) : (textR l k i).length ≤ 8 * i := by
  cases i with
  | zero => simp [textR]
  | succ i => exact (textR_ok l k (i + 1) (by omega)).2.1
theorem textT_ok (l : List Int) (k : Nat) : okT true (textT l k) = true ∧ (textT l k).length ≤ 72 ∧ 0 < (textT l k).length := by
  have h := atI_lt l k (m := 9) (by decide)
  have := textR_ok l k (1 + atI l k 9) (by omega)
  unfold textT
  exact ⟨this.1,by omega,this.2.2⟩
end Go.Sx
