/-
   And what follows.
-/
import Derived.Test.YtmoaeemdlompaaaDoorProg
import Derived.KernelRfl
import Derived.Test.YtmoaeemdlompaaaDoorPam
set_option linter.unusedSimpArgs false
set_option linter.unusedVariables false
namespace Go.Sx
open Go.RowKit Go.Proofs
theorem td3 : td Tryd.prog 3 = some ⟨.int .i64,1,8,[.int .i64 0]⟩ := by kernel_rfl
theorem td4 : td Tryd.prog 4 = some ⟨.bool,1,1,[.bool false]⟩ := by kernel_rfl
theorem td5 : td Tryd.prog 5 = some ⟨.int .u8,1,1,[.int .u8 0]⟩ := by kernel_rfl
theorem td9 : td Tryd.prog 9 = some ⟨.string,1,16,[.string ⟨#[]⟩]⟩ := by kernel_rfl
theorem td22 : td Tryd.prog 22 = some ⟨.slice 3,1,24,[.slice none 0 0]⟩ := by kernel_rfl
theorem td24 : td Tryd.prog 24 = some ⟨.slice 75,1,24,[.slice none 0 0]⟩ := by kernel_rfl
theorem td29 : td Tryd.prog 29 = some ⟨.array 16 5,16,16,List.replicate 16 (.int .u8 0)⟩ := by kernel_rfl
theorem td33 : td Tryd.prog 33 = some ⟨.slice 41,1,24,[.slice none 0 0]⟩ := by kernel_rfl
theorem td39 : td Tryd.prog 39 = some ⟨.slice 5,1,24,[.slice none 0 0]⟩ := by kernel_rfl
theorem td41 : td Tryd.prog 41 = some ⟨.struct #[Field.mk "Key" 9 0 false "" "" 0, Field.mk "Value" 9 1 false "" "" 16], 2, 32, [.string ⟨#[]⟩, .string ⟨#[]⟩]⟩ := by kernel_rfl
theorem td47 : td Tryd.prog 47 = some ⟨.slice 9,1,24,[.slice none 0 0]⟩ := by kernel_rfl
theorem td48 : td Tryd.prog 48 = some ⟨.slice 29,1,24,[.slice none 0 0]⟩ := by kernel_rfl
theorem td50 : td Tryd.prog 50 = some ⟨.struct #[Field.mk "First" 3 0 false "" "" 0, Field.mk "Size" 3 1 false "" "" 8, Field.mk "Leaves" 33 2 false "" "" 16, Field.mk "Sides" 48 3 false "" "" 40], 4, 64, [.int .i64 0, .int .i64 0, .slice none 0 0, .slice none 0 0]⟩ := by kernel_rfl
theorem td54 : td Tryd.prog 54 = some ⟨.struct #[Field.mk "First" 3 0 false "" "" 0, Field.mk "Size" 3 1 false "" "" 8, Field.mk "Leaves" 24 2 false "" "" 16, Field.mk "Sides" 48 3 false "" "" 40], 4, 64, [.int .i64 0, .int .i64 0, .slice none 0 0, .slice none 0 0]⟩ := by kernel_rfl
theorem td63 : td Tryd.prog 63 = some ⟨.slice 54,1,24,[.slice none 0 0]⟩ := by kernel_rfl
theorem td75 : td Tryd.prog 75 = some ⟨.struct #[Field.mk "Key" 9 0 false "" "" 0, Field.mk "Value" 9 1 false "" "" 16], 2, 32, [.string ⟨#[]⟩, .string ⟨#[]⟩]⟩ := by kernel_rfl
theorem td102 : td Tryd.prog 102 = some ⟨.struct #[Field.mk "Texts" 47 0 false "" "" 0, Field.mk "Sides" 48 1 false "" "" 24, Field.mk "Used" 3 2 false "" "" 48, Field.mk "Short" 4 3 false "" "" 56], 4, 64, [.slice none 0 0, .slice none 0 0, .int .i64 0, .bool false]⟩ := by kernel_rfl
theorem td116 : td Tryd.prog 116 = some ⟨.int .u64,1,8,[.int .u64 0]⟩ := by kernel_rfl
theorem td141 : td Tryd.prog 141 = some ⟨.array 32 5,32,32,List.replicate 32 (.int .u8 0)⟩ := by kernel_rfl
theorem td151 : td Tryd.prog 151 = some ⟨.int .u32,1,4,[.int .u32 0]⟩ := by kernel_rfl
theorem td152 : td Tryd.prog 152 = some ⟨.array 8 151,8,32,List.replicate 8 (.int .u32 0)⟩ := by kernel_rfl
theorem td153 : td Tryd.prog 153 = some ⟨.array 64 5,64,64,List.replicate 64 (.int .u8 0)⟩ := by kernel_rfl
theorem td155 : td Tryd.prog 155 = some ⟨.struct #[Field.mk "state" 152 0 false "" "passim/hash" 0, Field.mk "block" 153 8 false "" "passim/hash" 32, Field.mk "n" 116 72 false "" "passim/hash" 96], 73, 104, List.replicate 8 (.int .u32 0) ++ (List.replicate 64 (.int .u8 0) ++ [.int .u64 0])⟩ := by kernel_rfl
theorem td160 : td Tryd.prog 160 = some ⟨.int .u64,1,8,[.int .u64 0]⟩ := by kernel_rfl
theorem td162 : td Tryd.prog 162 = some ⟨.array 64 151,64,256,List.replicate 64 (.int .u32 0)⟩ := by kernel_rfl
theorem td166 : td Tryd.prog 166 = some ⟨.array 4 151,4,16,List.replicate 4 (.int .u32 0)⟩ := by kernel_rfl
attribute [go_sem] td3 td4 td5 td9 td22 td24 td29 td33 td39 td41 td47 td48 td50 td54 td63 td75 td102 td116 td141 td151 td152 td153 td155 td160 td162 td166
def kc : List (BitVec 32) := [0x428a2f98,0x71374491,0xb5c0fbcf,0xe9b5dba5,0x3956c25b,0x59f111f1,0x923f82a4,0xab1c5ed5,0xd807aa98,0x12835b01,0x243185be,0x550c7dc3,0x72be5d74,0x80deb1fe,0x9bdc06a7,0xc19bf174,0xe49b69c1,0xefbe4786,0x0fc19dc6,0x240ca1cc,0x2de92c6f,0x4a7484aa,0x5cb0a9dc,0x76f988da,0x983e5152,0xa831c66d,0xb00327c8,0xbf597fc7,0xc6e00bf3,0xd5a79147,0x06ca6351,0x14292967,0x27b70a85,0x2e1b2138,0x4d2c6dfc,0x53380d13,0x650a7354,0x766a0abb,0x81c2c92e,0x92722c85,0xa2bfe8a1,0xa81a664b,0xc24b8b70,0xc76c51a3,0xd192e819,0xd6990624,0xf40e3585,0x106aa070,0x19a4c116,0x1e376c08,0x2748774c,0x34b0bcb5,0x391c0cb3,0x4ed8aa4a,0x5b9cca4f,0x682e6ff3,0x748f82ee,0x78a5636f,0x84c87814,0x8cc70208,0x90befffa,0xa4506ceb,0xbef9a3f7,0xc67178f2]
noncomputable def glH : Nat → C := fun g => if g = 0 ∨ g = 2 then .kp (cl wC kc) else .top
noncomputable def cxP (gl : Nat → C) (M : Nat) (pu : Nat → List C → Option C) : Cx := ⟨Tryd.prog,M,gl,pu,fun _ _ _ => none,fun _ => false,fun _ _ => false⟩
theorem isG_mk (P : Program) (N : Nat) (gl : Nat → C) (pu : Nat → List C → Option C) (hp : Nat → List C → Hp → Option (C × Hp)) (km : TypeId → Value → Bool) (d : Option Nat) : isG ⟨P,N,gl,pu,hp,fun _ => false,km⟩ d = false := by cases d <;> rfl
theorem cxP_gr (gl : Nat → C) (M : Nat) (pu : Nat → List C → Option C) (d : Option Nat) : isG (cxP gl M pu) d = false := by cases d <;> rfl
theorem cxP_P (gl : Nat → C) (M : Nat) (pu : Nat → List C → Option C) : (cxP gl M pu).P = Tryd.prog := rfl
theorem cxP_N (gl : Nat → C) (M : Nat) (pu : Nat → List C → Option C) : (cxP gl M pu).N = M := rfl
theorem cxP_pu (gl : Nat → C) (M : Nat) (pu : Nat → List C → Option C) : (cxP gl M pu).pu = pu := rfl
theorem cxP_hp (gl : Nat → C) (M : Nat) (pu : Nat → List C → Option C) : (cxP gl M pu).hp = fun _ _ _ => none := rfl
theorem cxP_gl (gl : Nat → C) (M : Nat) (pu : Nat → List C → Option C) : (cxP gl M pu).gl = gl := rfl
theorem glH_0 : glH 0 = .kp (cl wC kc) := rfl
theorem glH_2 : glH 2 = .kp (cl wC kc) := rfl
theorem hMO {gl : Nat → C} {M : Nat} {pu : Nat → List C → Option C} : (cxP gl M pu).P.follows .mixedOrders = true := by
  rw [cxP_P]; kernel_rfl
def rotl (x : BitVec 32) (k : Nat) : BitVec 32 := x <<< k ||| x >>> (32 - k)
def rr (x : BitVec 32) (n : Nat) : BitVec 32 := x >>> n ||| x <<< (32 - n)
theorem rotl_rr (x : BitVec 32) (n m : Nat) (h : n = 32 - m ∧ 0 < m ∧ m < 32) : rotl x n = rr x m := by
  unfold rotl rr
  obtain ⟨h1,h2,h3⟩ := h
  subst h1
  rw [BitVec.or_comm]; congr 2; omega
theorem glH_noRef : ∀ g,noRef 0 (glH g) = true := fun g => by
  unfold glH; split
  · exact noRefs_cl wC 0 kc
  · rfl
theorem rotl25 (x : BitVec 32) : rotl x 25 = rr x 7 := rotl_rr x 25 7 (by omega)
theorem rotl14 (x : BitVec 32) : rotl x 14 = rr x 18 := rotl_rr x 14 18 (by omega)
theorem rotl15 (x : BitVec 32) : rotl x 15 = rr x 17 := rotl_rr x 15 17 (by omega)
theorem rotl13 (x : BitVec 32) : rotl x 13 = rr x 19 := rotl_rr x 13 19 (by omega)
def bw (b : UInt8) : BitVec 32 := b.toBitVec.setWidth 32
def word4 (b : List UInt8) (t : Nat) : BitVec 32 := bw (gt b (4 * t)) <<< 24 ||| bw (gt b (4 * t + 1)) <<< 16 ||| bw (gt b (4 * t + 2)) <<< 8 ||| bw (gt b (4 * t + 3))
def sched (b : List UInt8) : Nat → List (BitVec 32)
  | 0 => []
  | t + 1 => sched b t ++ [if t < 16 then word4 b t else
      gt (sched b t) (t - 16) + (rr (gt (sched b t) (t - 15)) 7 ^^^ rr (gt (sched b t) (t - 15)) 18 ^^^ gt (sched b t) (t - 15) >>> 3) + gt (sched b t) (t - 7) +
        (rr (gt (sched b t) (t - 2)) 17 ^^^ rr (gt (sched b t) (t - 2)) 19 ^^^ gt (sched b t) (t - 2) >>> 10)]
theorem sched_len (b : List UInt8) : ∀ t,(sched b t).length = t
  | 0 => rfl
  | t + 1 => by simp [sched,sched_len b t]
def acc4 (l : List UInt8) : BitVec 32 := l.foldl (fun a x => a <<< 8 ||| bw x) 0
theorem acc4_snoc (l : List UInt8) (x : UInt8) : acc4 (l ++ [x]) = acc4 l <<< 8 ||| bw x := by simp [acc4]
theorem acc4_word (b : List UInt8) (t : Nat) (h : 4 * t + 4 ≤ b.length) : acc4 ((b.drop (4 * t)).take 4) = word4 b t := by
  have e : (b.drop (4 * t)).take 4 = [gt b (4 * t),gt b (4 * t + 1),gt b (4 * t + 2),gt b (4 * t + 3)] := by
    apply List.ext_getElem?
    intro i
    rw [List.getElem?_take,List.getElem?_drop]
    rcases i with _ | _ | _ | _ | i <;> simp [gt,List.getD] <;> first | (rw [List.getElem?_eq_getElem (by omega)]; simp) | omega
  rw [e]
  simp only [acc4,List.foldl_cons,List.foldl_nil,word4]
  have z : ∀ x : BitVec 32,(0 : BitVec 32) <<< 8 ||| x = x := fun x => by simp
  rw [z]
  simp only [BitVec.shiftLeft_or_distrib,← BitVec.shiftLeft_add]
theorem sched_in (b : List UInt8) (t : Nat) (h : t < 64) : [some (cl wC (List.replicate 64 0)),some (cl wC (sched b t ++ List.replicate (64 - t) 0))] = [some (cl wC (List.replicate 64 0)),some (cl wC (sched b t ++ acc4 (((b.drop (4 * t)).take 4).take 0) :: List.replicate (63 - t) 0))] := by
  have e : 64 - t = (63 - t) + 1 := by omega
  rw [e,List.replicate_succ]; rfl
theorem sched_inn (b : List UInt8) (t j : Nat) (h : j < ((b.drop (4 * t)).take 4).length) (h2 : t < 64) : [some (cl wC (List.replicate 64 0)),some (cl wC (sched b t ++ (acc4 (((b.drop (4 * t)).take 4).take j) <<< 8 ||| bw (gt ((b.drop (4 * t)).take 4) j)) :: List.replicate (63 - t) 0))] = [some (cl wC (List.replicate 64 0)),some (cl wC (sched b t ++ acc4 (((b.drop (4 * t)).take 4).take (j + 1)) :: List.replicate (63 - t) 0))] := by
  rw [take_snoc _ _ h,acc4_snoc]
theorem sched_nextA (b : List UInt8) (t : Nat) (hb : b.length = 64) (h : t < 16) : [some (cl wC (List.replicate 64 0)),some (cl wC (sched b t ++ acc4 (((b.drop (4 * t)).take 4).take 4) :: List.replicate (63 - t) 0))] = [some (cl wC (List.replicate 64 0)),some (cl wC (sched b (t + 1) ++ List.replicate (64 - (t + 1)) 0))] := by
  have e : 64 - (t + 1) = 63 - t := by omega
  rw [e,List.take_take,Nat.min_self,acc4_word b t (by omega)]
  simp only [sched,h,if_true,List.append_assoc,List.cons_append,List.nil_append]
theorem sched_nextB (b : List UInt8) (t : Nat) (h : ¬ t < 16) :
    [some (cl wC (List.replicate 64 0)),some (cl wC (sched b t ++ (gt (sched b t) (t - 16) + (rr (gt (sched b t) (t - 15)) 7 ^^^ rr (gt (sched b t) (t - 15)) 18 ^^^ gt (sched b t) (t - 15) >>> 3) + gt (sched b t) (t - 7) +
        (rr (gt (sched b t) (t - 2)) 17 ^^^ rr (gt (sched b t) (t - 2)) 19 ^^^ gt (sched b t) (t - 2) >>> 10)) :: List.replicate (64 - 1 - t) 0))] = [some (cl wC (List.replicate 64 0)),some (cl wC (sched b (t + 1) ++ List.replicate (64 - (t + 1)) 0))] := by
  have e : 64 - (t + 1) = 64 - 1 - t := by omega
  rw [e]
  simp only [sched,h,if_false,List.append_assoc,List.cons_append,List.nil_append]
theorem kc_len : kc.length = 64 := id rfl
structure S8 where
  (a b c d e f g h : BitVec 32)
def rnd (k w : BitVec 32) (s : S8) : S8 :=
  ⟨(s.h + (rr s.e 6 ^^^ rr s.e 11 ^^^ rr s.e 25) + (s.e &&& s.f ^^^ ~~~s.e &&& s.g) + k + w) + ((rr s.a 2 ^^^ rr s.a 13 ^^^ rr s.a 22) + (s.a &&& s.b ^^^ s.a &&& s.c ^^^ s.b &&& s.c)),s.a,s.b,s.c,
    s.d + (s.h + (rr s.e 6 ^^^ rr s.e 11 ^^^ rr s.e 25) + (s.e &&& s.f ^^^ ~~~s.e &&& s.g) + k + w),s.e,s.f,s.g⟩
def rounds (w : List (BitVec 32)) (s : S8) : Nat → S8
  | 0 => s
  | t + 1 => rnd (gt kc t) (gt w t) (rounds w s t)
def S8.l (s : S8) : List (BitVec 32) := [s.a,s.b,s.c,s.d,s.e,s.f,s.g,s.h]
def S8.add (s r : S8) : S8 := ⟨s.a + r.a,s.b + r.b,s.c + r.c,s.d + r.d,s.e + r.e,s.f + r.f,s.g + r.g,s.h + r.h⟩
def comp (s : S8) (b : List UInt8) : S8 := s.add (rounds (sched b 64) s 64)
def addL (s r : S8) (i : Nat) : List (BitVec 32) := [if 0 < i then s.a + r.a else s.a,if 1 < i then s.b + r.b else s.b,if 2 < i then s.c + r.c else s.c,if 3 < i then s.d + r.d else s.d,
  if 0 < i then s.e + r.e else s.e,if 1 < i then s.f + r.f else s.f,if 2 < i then s.g + r.g else s.g,if 3 < i then s.h + r.h else s.h]
theorem addL_len (s r : S8) (i : Nat) : (addL s r i).length = 8 := id rfl
theorem fa155_0 (b o : Nat) : fieldAddrPlan Tryd.prog 155 (.bp b o) 0 = some (vp (.bp b (o + 0))) := by
  rw [fa_td,td155,fa_bp (h := rfl)]
  show faQ (td Tryd.prog 152) b (o + 0) = _
  rw [td152]; rfl
theorem fa155_1 (b o : Nat) : fieldAddrPlan Tryd.prog 155 (.bp b o) 1 = some (vp (.bp b (o + 8))) := by
  rw [fa_td,td155,fa_bp (h := rfl)]
  show faQ (td Tryd.prog 153) b (o + 8) = _
  rw [td153]; rfl
theorem fa155_2 (b o : Nat) : fieldAddrPlan Tryd.prog 155 (.bp b o) 2 = some (vp (.bp b (o + 72))) := by
  rw [fa_td,td155,fa_bp (h := rfl)]
  show faQ (td Tryd.prog 116) b (o + 72) = _
  rw [td116]; rfl
theorem S8.l_len (s : S8) : s.l.length = 8 := id rfl
def Z8 : List (BitVec 32) := [0,0,0,0,0,0,0,0]
theorem Z8_len : Z8.length = 8 := id rfl
structure Str where
  (s : S8) (blk : List UInt8) (n : Nat)
def Str.cells (F : Str) : List C := cl wC F.s.l ++ (cl bC F.blk ++ [.val (nU F.n)])
def IV : S8 := ⟨0x6a09e667,0xbb67ae85,0x3c6ef372,0xa54ff53a,0x510e527f,0x9b05688c,0x1f83d9ab,0x5be0cd19⟩
def F0 : Str := ⟨IV,List.replicate 64 0,0⟩
def push (F : Str) (x : UInt8) : Str := ⟨if F.n % 64 = 63 then comp F.s (F.blk.set (F.n % 64) x) else F.s,F.blk.set (F.n % 64) x,F.n + 1⟩
def feed (F : Str) (m : List UInt8) : Str := m.foldl push F
theorem feed_app (F : Str) (m t : List UInt8) : feed F (m ++ t) = feed (feed F m) t := by simp [feed]
theorem feed_n (m : List UInt8) : ∀ F : Str,(feed F m).n = F.n + m.length := by
  induction m with
  | nil => intro F; rfl
  | cons x m ih => intro F; show (feed (push F x) m).n = _; rw [ih]; simp [push]; omega
theorem feed_len (m : List UInt8) : ∀ F : Str,(feed F m).blk.length = F.blk.length := by
  induction m with
  | nil => intro F; rfl
  | cons x m ih => intro F; show (feed (push F x) m).blk.length = _; rw [ih]; simp [push]
theorem feed_chunk : ∀ (l : List UInt8) (G : Str),G.blk.length = 64 → G.n % 64 + l.length ≤ 64 → l ≠ [] →
    feed G l = ⟨if G.n % 64 + l.length = 64 then comp G.s (G.blk.take (G.n % 64) ++ l ++ G.blk.drop (G.n % 64 + l.length)) else G.s,G.blk.take (G.n % 64) ++ l ++ G.blk.drop (G.n % 64 + l.length),G.n + l.length⟩
  | [],G,_,_,h => absurd rfl h
  | [x],G,hb,hl,_ => by
    have e : G.blk.set (G.n % 64) x = G.blk.take (G.n % 64) ++ [x] ++ G.blk.drop (G.n % 64 + 1) := by
      rw [List.set_eq_take_append_cons_drop,if_pos (by omega)]; simp
    show push G x = _
    unfold push
    rw [e]
    simp only [List.length_singleton]
    have : (G.n % 64 = 63) = (G.n % 64 + 1 = 64) := by simp
    simp only [this]
  | x :: y :: l,G,hb,hl,_ => by
    simp only [List.length_cons] at hl
    have hne : G.n % 64 ≠ 63 := by omega
    show feed (push G x) (y :: l) = _
    have hp : push G x = ⟨G.s,G.blk.set (G.n % 64) x,G.n + 1⟩ := by unfold push; rw [if_neg hne]
    have hm : (G.n + 1) % 64 = G.n % 64 + 1 := by omega
    rw [hp,feed_chunk (y :: l) _ (by simpa using hb) (by simp only [hm,List.length_cons]; omega) (by simp)]
    simp only [hm,List.length_cons]
    have e1 : (G.blk.set (G.n % 64) x).take (G.n % 64 + 1) = G.blk.take (G.n % 64) ++ [x] := by
      rw [List.set_eq_take_append_cons_drop,if_pos (by omega)]
      rw [List.take_append,List.length_take,Nat.min_eq_left (by omega),List.take_of_length_le (by simp; omega)]
      simp
    have e2 : (G.blk.set (G.n % 64) x).drop (G.n % 64 + 1 + (l.length + 1)) = G.blk.drop (G.n % 64 + (l.length + 1 + 1)) := by
      rw [List.drop_set_of_lt (by omega)]; congr 1; omega
    rw [e1,e2]
    have e3 : (G.n % 64 + 1 + (l.length + 1) = 64) = (G.n % 64 + (l.length + 1 + 1) = 64) := by rw [show G.n % 64 + 1 + (l.length + 1) = G.n % 64 + (l.length + 1 + 1) by omega]
    simp only [e3,List.append_assoc,List.cons_append,List.nil_append]
    have e4 : G.n + 1 + (l.length + 1) = G.n + (l.length + 1 + 1) := by omega
    rw [e4]
def zpad (n : Nat) : Nat := (119 - n % 64) % 64
def be64 (n : Nat) (k : Nat) : List UInt8 := (List.range k).map fun i => UInt8.ofNat (n >>> (56 - 8 * i))
def pad (n : Nat) : List UInt8 := 128 :: List.replicate (zpad n) 0 ++ be64 (8 * n) 8
def dgb (s : S8) (i : Nat) : UInt8 := ⟨(gt s.l (i / 4) >>> (24 - 8 * (i % 4))).setWidth 8⟩
def dig (s : S8) (n : Nat) : List UInt8 := (List.range n).map (dgb s)
theorem dig_len (s : S8) (n : Nat) : (dig s n).length = n := by simp [dig]
def sumF (F : Str) : List UInt8 := dig (feed F (pad F.n)).s 32
def sha (m : List UInt8) : List UInt8 := sumF (feed F0 m)
theorem sha_len (m : List UInt8) : (sha m).length = 32 := dig_len _ _
theorem be64_succ (n k : Nat) : be64 n (k + 1) = be64 n k ++ [UInt8.ofNat (n >>> (56 - 8 * k))] := by simp [be64,List.range_succ]
theorem be64_len (n k : Nat) : (be64 n k).length = k := by simp [be64]
theorem dig_succ (s : S8) (k : Nat) : dig s (k + 1) = dig s k ++ [dgb s k] := by simp [dig,List.range_succ]
theorem Str_eta (F : Str) : (⟨F.s,F.blk,F.n⟩ : Str) = F := rfl
theorem F0_len : F0.blk.length = 64 := id rfl
theorem F0_n : F0.n = 0 := id rfl
theorem add_step (F G : Str) (t L : List UInt8) (c : Nat) (hG : feed F (t.take c) = G) (hL : t.drop c = L) (hb : G.blk.length = 64) (hne : L ≠ []) :
    feed F (t.take (c + min L.length (64 - G.n % 64))) = ⟨if G.n % 64 + min L.length (64 - G.n % 64) = 64 then comp G.s (G.blk.take (G.n % 64) ++ L.take (64 - G.n % 64) ++ G.blk.drop (G.n % 64 + (L.take (64 - G.n % 64)).length)) else G.s,
      G.blk.take (G.n % 64) ++ L.take (64 - G.n % 64) ++ G.blk.drop (G.n % 64 + (L.take (64 - G.n % 64)).length),G.n + min L.length (64 - G.n % 64)⟩ := by
  have hlen : (L.take (64 - G.n % 64)).length = min L.length (64 - G.n % 64) := by rw [List.length_take,Nat.min_comm]
  have e : feed F (t.take (c + min L.length (64 - G.n % 64))) = feed G (L.take (64 - G.n % 64)) := by
    rw [List.take_add,feed_app,hG,hL]
    congr 1
    rw [List.take_eq_take_iff]; omega
  rw [e,feed_chunk _ G hb (by rw [hlen]; omega) (fun h => by
    have h2 := congrArg List.length h
    have h3 : 0 < L.length := List.length_pos_iff.2 hne
    rw [hlen] at h2; simp only [List.length_nil] at h2; omega)]
  simp only [hlen]
theorem dig_next (S : S8) (i : Nat) (h : i < 32) : dig S i ++ dgb S i :: List.replicate (32 - 1 - i) 0 = dig S (i + 1) ++ List.replicate (32 - (i + 1)) 0 := by
  rw [dig_succ,show 32 - (i + 1) = 32 - 1 - i by omega]; simp
theorem take_drop_len {α : Type} (l : List α) (k : Nat) : (l.drop k).take (l.length - k) = l.drop k := List.take_of_length_le (by simp)
theorem eq23 (op : BinOp) (a b : List UInt8) (ha : a.length = 16) (hb : b.length = 16) : binPlan Tryd.prog op 29 (.agg (cl bC a)) (.agg (cl bC b)) = eqR op (decide (a = b)) := eq_arr8 Tryd.prog td29 td5 (by kernel_rfl) op a b ha hb
theorem live_strm (a : List (BitVec 32)) (l : List UInt8) (v : Value) : liveC (some (cl wC a ++ (cl bC l ++ [C.val v]))) = some (cl wC a ++ (cl bC l ++ [C.val v])) := live_clL wC a _ (live_clL bC l _ rfl)
attribute [go_sem] live_strm
attribute [go_sem] cxP_P cxP_N cxP_pu cxP_hp cxP_gl cxP_gr isG_mk fa155_0 fa155_1 fa155_2
end Go.Sx
namespace Go.Sx
open Go.RowKit Go.Proofs
def keyOf (key : List UInt8) : List UInt8 := if key.length > 64 then sha key else key
def inp (tag : Int) (parts : List (List UInt8)) : List UInt8 := UInt8.ofNat (tag % 256).toNat :: parts.flatMap wb
theorem inp_take (tag : Int) (parts : List (List UInt8)) (i : Nat) (h : i < parts.length) : inp tag (parts.take (i + 1)) = inp tag (parts.take i) ++ wb (gt parts i) := by
  rw [take_snoc _ _ h]; simp [inp]
theorem inp_le (tag : Int) (parts : List (List UInt8)) (i : Nat) : (inp tag (parts.take i)).length ≤ (inp tag parts).length := by
  have h := List.take_append_drop i parts
  have e : inp tag parts = inp tag (parts.take i) ++ (parts.drop i).flatMap wb := by
    have e2 : parts.flatMap wb = (parts.take i ++ parts.drop i).flatMap wb := by rw [h]
    unfold inp
    rw [e2,List.flatMap_append]; rfl
  rw [e]; simp
theorem blk_step (M : List UInt8) (a : Nat) (h : 64 * a + 64 ≤ M.length) : (feed F0 (M.take (64 * (a + 1)))).s = comp (feed F0 (M.take (64 * a))).s ((M.drop (64 * a)).take 64) := by
  have hl : ((M.drop (64 * a)).take 64).length = 64 := by simp; omega
  have hn := feed_n (M.take (64 * a)) F0
  rw [F0_n,List.length_take,Nat.min_eq_left (by omega)] at hn
  have hb := feed_len (M.take (64 * a)) F0
  rw [F0_len] at hb
  rw [show 64 * (a + 1) = 64 * a + 64 by omega,List.take_add,feed_app,feed_chunk _ _ hb (by rw [hl,hn]; omega) (fun e => by rw [e] at hl; cases hl)]
  have hm : (feed F0 (M.take (64 * a))).n % 64 = 0 := by rw [hn]; omega
  simp only [hl,hm,Nat.zero_add,if_true,List.take_zero,List.nil_append]
  have hd : List.drop 64 (feed F0 (M.take (64 * a))).blk = [] := List.drop_of_length_le (by rw [hb]; exact Nat.le_refl _)
  rw [hd,List.append_nil]
theorem sha_eq (b : List UInt8) : sha b = dig (feed F0 (b ++ pad b.length)).s 32 := by
  unfold sha sumF
  rw [feed_n,F0_n,Nat.zero_add,feed_app]
theorem pad_len (n : Nat) : (pad n).length = 9 + zpad n := by simp [pad,be64_len]; omega
theorem padM_len (b : List UInt8) : ∃ Q,(b ++ pad b.length).length = 64 * Q := by
  refine ⟨(b ++ pad b.length).length / 64,?_⟩
  have : (b ++ pad b.length).length % 64 = 0 := by
    rw [List.length_append,pad_len]; unfold zpad; omega
  omega
theorem xor_ff (x : BitVec 32) : x ^^^ BitVec.ofNat 32 4294967295 = ~~~x := by
  have : BitVec.ofNat 32 4294967295 = BitVec.allOnes 32 := by decide
  rw [this,BitVec.xor_allOnes]
def few (l : List (List UInt8)) : Bool := decide (l.length ≤ 12) && l.all fun s => decide (s.length ≤ 400)
theorem sumF_len (F : Str) : (sumF F).length = 32 := dig_len _ _
theorem parts_bound (tag : Int) (parts : List (List UInt8)) (h : (inp tag parts).length < 1099511627776) (i : Nat) (hi : i < parts.length) :
    (inp tag (parts.take i)).length + (wb (gt parts i)).length < 1099511627776 ∧ (gt parts i).length < 1099511627776 := by
  have h1 := inp_le tag parts (i + 1)
  rw [inp_take tag parts i hi,List.length_append] at h1
  have h2 : (gt parts i).length ≤ (wb (gt parts i)).length := by simp [wb]
  omega
theorem parts_len (tag : Int) (parts : List (List UInt8)) (h : (inp tag parts).length < 1099511627776) : parts.length < 1099511627776 := by
  have : ∀ l : List (List UInt8),l.length ≤ (l.flatMap wb).length := by
    intro l
    induction l with
    | nil => simp
    | cons a l ih => have := wb_pos a; simp at ih ⊢; omega
  have := this parts
  unfold inp at h
  simp only [List.length_cons] at h
  omega
end Go.Sx
namespace Go.Sx
open Go.RowKit Go.Proofs
set_option maxRecDepth 100000
set_option maxHeartbeats 8000000
theorem X_fc117 {p : Prop} (e : p := by intro KZ hZ; simp -implicitDefEqProofs (disch := first | omega | (simp only [go_sem,lA,lD,lT] <;> omega) | decide) only [go_sem,↓reduceIte,Nat.reduceEqDiff,reduceCtorEq,Nat.reduceLT,Nat.reduceBEq,Nat.reduceAdd,hy]; exact hZ) : p := e
theorem F_fc117 {p : Prop} (e : p := by simp -implicitDefEqProofs (disch := first | omega | (simp only [go_sem,lA,lD,lT] <;> omega) | decide) only [go_sem,↓reduceIte,Nat.reduceEqDiff,reduceCtorEq]; all_goals (rfl)) : p := e
theorem fc117 {gl : Nat → C} {M : Nat} {pu : Nat → List C → Option C} (hcx : CxOK (cxP gl M pu)) (x : BitVec 32) (k : Int) : FC Tryd.prog gl 117 [.val (w32 x),.val (.int .i64 k)] [] (.val (w32 (rotl x ((k % 18446744073709551616).toNat % 32)))) [] := by
 replace hcx := hcx.reN (M := 17)
 refine FC.ofA (cx := cxP gl 17 pu) (rs := [.tmp 4]) rfl Tryd.func117 rfl rfl rfl (by simp only [List.length_cons,List.length_nil]; decide) (by simp only [go_sem]) ?_
 simp only [ini,go_sem]
 have hy := True.intro
 refine Tr.w hcx [] _ [] rfl rfl rfl ?_ X_fc117
 refine Tr.w hcx [1000008] _ [] rfl rfl rfl ?_ X_fc117
 refine Tr.w hcx [1000016] _ [] rfl rfl rfl ?_ X_fc117
 exact Tr.ret F_fc117
theorem X_fc116 {p : Prop} (e : p := by intro KZ hZ; simp -implicitDefEqProofs (disch := first | omega | (simp only [go_sem,lA,lD,lT] <;> omega) | decide) only [go_sem,↓reduceIte,Nat.reduceEqDiff,reduceCtorEq,Nat.reduceLT,Nat.reduceBEq,Nat.reduceAdd,h117,hy]; exact hZ) : p := e
theorem F_fc116 {p : Prop} (e : p := by simp -implicitDefEqProofs (disch := first | omega | (simp only [go_sem,lA,lD,lT] <;> omega) | decide) only [go_sem,↓reduceIte,Nat.reduceEqDiff,reduceCtorEq]; all_goals (rw [rotl_rr x _ i (by omega),rotl_rr x _ j (by omega),rotl_rr x _ k (by omega)])) : p := e
theorem fc116 {gl : Nat → C} {M : Nat} {pu : Nat → List C → Option C} (hcx : CxOK (cxP gl M pu)) (h117 : ∀ x k,pu 117 [.val (w32 x),.val (.int .i64 k)] = some (.val (w32 (rotl x ((k % 18446744073709551616).toNat % 32))))) (x : BitVec 32) (i j k : Nat) (hi : 0 < i ∧ i < 32) (hj : 0 < j ∧ j < 32) (hk : 0 < k ∧ k < 32) : FC Tryd.prog gl 116 [.val (w32 x),.val (nI i),.val (nI j),.val (nI k)] [] (.val (w32 (rr x i ^^^ rr x j ^^^ rr x k))) [] := by
 replace hcx := hcx.reN (M := 23)
 refine FC.ofA (cx := cxP gl 23 pu) (rs := [.tmp 8]) rfl Tryd.func116 rfl rfl rfl (by simp only [List.length_cons,List.length_nil]; decide) (by simp only [go_sem]) ?_
 simp only [ini,go_sem]
 have hy := True.intro
 refine Tr.w hcx [] _ [] rfl rfl rfl ?_ X_fc116
 refine Tr.w hcx [1000022] _ [] rfl rfl rfl ?_ X_fc116
 exact Tr.ret F_fc116
theorem X_fc110 {p : Prop} (e : p := by intro KZ hZ; simp -implicitDefEqProofs (disch := first | omega | (simp only [go_sem,lA,lD,lT] <;> omega) | decide) only [go_sem,↓reduceIte,Nat.reduceEqDiff,reduceCtorEq,Nat.reduceLT,Nat.reduceBEq,Nat.reduceAdd,hy]; exact hZ) : p := e
theorem Y_fc110 {p : Prop} (e : p := by intro KZ hZ; simp -implicitDefEqProofs (disch := first | omega | (simp only [go_sem,lA,lD,lT] <;> omega) | decide) only [go_sem,↓reduceIte,Nat.reduceEqDiff,reduceCtorEq,Nat.reduceLT,Nat.reduceBEq,Nat.reduceAdd,hy]; refine And.intro ?_ hZ; exact rfl) : p := e
theorem F_fc110 {p : Prop} (e : p := by simp -implicitDefEqProofs (disch := first | omega | (simp only [go_sem,lA,lD,lT] <;> omega) | decide) only [go_sem,↓reduceIte,Nat.reduceEqDiff,reduceCtorEq]; all_goals (rfl)) : p := e
theorem fc110 {gl : Nat → C} {M : Nat} {pu : Nat → List C → Option C} (hcx : CxOK (cxP gl M pu)) (x : BitVec 32) (n : Nat) (hn : n < 32) : FC Tryd.prog gl 110 [.val (w32 x),.val (nI n)] [] (.val (w32 (rr x n))) [] := by
 replace hcx := hcx.reN (M := 13)
 refine FC.ofA (cx := cxP gl 13 pu) (rs := [.tmp 4]) rfl Tryd.func110 rfl rfl rfl (by simp only [List.length_cons,List.length_nil]; decide) (by simp only [go_sem]) ?_
 simp only [ini,go_sem]
 have hy := True.intro
 refine Tr.w hcx [] _ [] rfl rfl rfl ?_ X_fc110
 refine Tr.wD hcx hMO [1000012] _ [] rfl rfl rfl rfl ?_ Y_fc110
 exact Tr.ret F_fc110
theorem X_fc115 {p : Prop} (e : p := by intro KZ hZ; simp -implicitDefEqProofs (disch := first | omega | (simp only [go_sem,lA,lD,lT,sched_len,hb] <;> omega) | decide) only [go_sem,↓reduceIte,Nat.reduceEqDiff,reduceCtorEq,Nat.reduceLT,Nat.reduceBEq,Nat.reduceAdd,Nat.reduceSub,Nat.reduceMul,Nat.reduceMod,Int.reduceMod,Int.reduceToNat,Int.reduceNeg,h117,gt_left,gt_mid,set_mid,set_rep,sched_len,rotl25,rotl14,rotl15,rotl13,hy]; exact hZ) : p := e
theorem Y_fc115 {p : Prop} (e : p := by intro KZ hZ; simp -implicitDefEqProofs (disch := first | omega | (simp only [go_sem,lA,lD,lT,sched_len,hb] <;> omega) | decide) only [go_sem,↓reduceIte,Nat.reduceEqDiff,reduceCtorEq,Nat.reduceLT,Nat.reduceBEq,Nat.reduceAdd,Nat.reduceSub,Nat.reduceMul,Nat.reduceMod,Int.reduceMod,Int.reduceToNat,Int.reduceNeg,h117,gt_left,gt_mid,set_mid,set_rep,sched_len,rotl25,rotl14,rotl15,rotl13,hy]; refine And.intro ?_ hZ; exact rfl) : p := e
theorem F_fc115 {p : Prop} (e : p := by simp -implicitDefEqProofs (disch := first | omega | (simp only [go_sem,lA,lD,lT,sched_len,hb] <;> omega) | decide) only [go_sem,↓reduceIte,Nat.reduceEqDiff,reduceCtorEq]; all_goals (simp [List.take_of_length_le,sched_len])) : p := e
theorem fc115 {gl : Nat → C} {M : Nat} {pu : Nat → List C → Option C} (hcx : CxOK (cxP gl M pu)) (h117 : ∀ x k,pu 117 [.val (w32 x),.val (.int .i64 k)] = some (.val (w32 (rotl x ((k % 18446744073709551616).toNat % 32))))) (b : List UInt8) (hb : b.length = 64) : FC Tryd.prog gl 115 [sl bC .no b] [] (.agg (cl wC (sched b 64))) [] := by
 replace hcx := hcx.reN (M := 79)
 refine FC.ofA (cx := cxP gl 79 pu) (rs := [.cell 2 162]) rfl Tryd.func115 rfl rfl rfl (by simp only [List.length_cons,List.length_nil]; decide) (by simp only [go_sem]) ?_
 simp only [ini,go_sem]
 have hy := True.intro
 refine Tr.w hcx [] _ [none] rfl rfl rfl ?_ X_fc115
 refine Tr.w hcx [] _ [none] rfl rfl rfl ?_ X_fc115
 refine Tr.seqK fun K1 hK1 => ?_
 refine Tr.w hcx [] _ [] rfl rfl rfl ?_ X_fc115
 refine Tr.k [0,2,3,11] ?_
 refine Tr.blk ?_
 refine Tr.loopI (α := Nat) (fun a => [(0,?v0_1),(2,?v2_1),(3,?v3_1),(11,.val (nI a))]) (fun a => [some (cl wC (List.replicate 64 0)),some (cl wC (sched b a ++ List.replicate (64 - a) 0))]) (fun a => a ≤ 64) (fun a => 64 - a) (0) ?_ ?le_1 ?hh_1 ?bd_1
 case hh_1 => exact rfl
 case le_1 => exact LT
 · omega
 rintro t ht
 refine Tr.w hcx [] _ [] rfl rfl rfl ?_ X_fc115
 refine Tr.seqK fun K2 hK2 => ?_
 refine Tr.cD rfl (fun hc12 => ?_) (fun hc12 => ?_)
 ·
  refine Tr.skip ?_
  refine hK2 _ ?_
  refine Tr.seqK fun K3 hK3 => ?_
  refine Tr.blk ?_
  refine Tr.w hcx [1000013] _ [] rfl rfl rfl ?_ X_fc115
  refine Tr.seqK fun K4 hK4 => ?_
  refine Tr.w hcx [] _ [] rfl rfl rfl ?_ X_fc115
  refine Tr.cD rfl (fun hc15 => ?_) (fun hc15 => ?_)
  ·
   refine Tr.seqK fun K5 hK5 => ?_
   refine Tr.w hcx [] _ [] rfl rfl rfl ?_ X_fc115
   refine Tr.k [0,2,3,4,11,22,23,24] ?_
   refine Tr.blk ?_
   refine Tr.loopI (α := Nat) (fun a => [(0,?v0_2),(2,?v2_2),(3,?v3_2),(4,?v4_2),(11,?v11_2),(22,?v22_2),(23,?v23_2),(24,.val (nI a))]) (fun a => [some (cl wC (List.replicate 64 0)),some (cl wC (sched b t ++ acc4 (((b.drop (4 * t)).take 4).take a) :: List.replicate (63 - t) 0))]) (fun a => a ≤ 4) (fun a => 4 - a) (0) ?_ ?le_2 ?hh_2 ?bd_2
   case hh_2 => exact sched_in b t (by omega)
   case le_2 => exact LT
   · omega
   rintro j hj
   have hl4 : (List.take 4 (List.drop (4 * t) b)).length = 4 := by simp; omega
   refine Tr.w hcx [] _ [] rfl rfl rfl ?_ X_fc115
   refine Tr.seqK fun K6 hK6 => ?_
   refine Tr.cD rfl (fun hc25 => ?_) (fun hc25 => ?_)
   ·
    refine Tr.skip ?_
    refine hK6 _ ?_
    refine Tr.seqK fun K7 hK7 => ?_
    refine Tr.blk ?_
    refine Tr.w hcx [1000027] _ [] rfl rfl rfl ?_ X_fc115
    refine Tr.v hcx [] _ [] rfl rfl rfl ?_ X_fc115
    refine hK7 _ ?_
    refine Tr.v hcx [] _ [] rfl rfl rfl ?_ X_fc115
    exact ⟨j + 1,⟨by omega,O1⟩,LT,sched_inn b t j (by omega) (by omega)⟩
   obtain rfl : j = 4 := by omega
   refine Tr.exit ?_
   refine hK5 _ ?_
   refine Tr.exit ?_
   refine hK3 _ ?_
   refine Tr.v hcx [] _ [] rfl rfl rfl ?_ X_fc115
   exact ⟨t + 1,⟨by omega,O1⟩,LT,by first | exact sched_nextA b t hb (by omega) | exact sched_nextB b t (by omega)⟩
  refine Tr.skip ?_
  refine hK4 _ ?_
  refine Tr.wD hcx hMO [1000041,1000045] _ [] rfl rfl rfl rfl ?_ Y_fc115
  refine Tr.k [0,2,3,4,7,8,11] ?_
  refine Tr.w hcx [1000053] _ [] rfl rfl rfl ?_ X_fc115
  refine Tr.w hcx [1000061] _ [] rfl rfl rfl ?_ X_fc115
  refine Tr.k [0,2,3,4,9,10,11] ?_
  refine Tr.vD hcx hMO [] _ [] rfl rfl rfl rfl ?_ Y_fc115
  refine hK3 _ ?_
  refine Tr.v hcx [] _ [] rfl rfl rfl ?_ X_fc115
  exact ⟨t + 1,⟨by omega,O1⟩,LT,by first | exact sched_nextA b t hb (by omega) | exact sched_nextB b t (by omega)⟩
 obtain rfl : t = 64 := by omega
 refine Tr.exit ?_
 refine hK1 _ ?_
 refine Tr.w hcx [] _ [] rfl rfl rfl ?_ X_fc115
 exact Tr.ret F_fc115
theorem X_fc113 {p : Prop} (e : p := by intro KZ hZ; simp -implicitDefEqProofs (disch := first | omega | (simp only [go_sem,lA,lD,lT,sched_len,hb,kc_len,addL_len,S8.l] <;> omega) | decide) only [go_sem,↓reduceIte,Nat.reduceEqDiff,reduceCtorEq,Nat.reduceLT,Nat.reduceBEq,Nat.reduceAdd,hg1,h116,h115,sched_len,S8.l,kc_len,addL_len,hy]; exact hZ) : p := e
theorem Y_fc113 {p : Prop} (e : p := by intro KZ hZ; simp -implicitDefEqProofs (disch := first | omega | (simp only [go_sem,lA,lD,lT,sched_len,hb,kc_len,addL_len,S8.l] <;> omega) | decide) only [go_sem,↓reduceIte,Nat.reduceEqDiff,reduceCtorEq,Nat.reduceLT,Nat.reduceBEq,Nat.reduceAdd,hg1,h116,h115,sched_len,S8.l,kc_len,addL_len,hy]; refine And.intro ?_ hZ; exact rfl) : p := e
theorem F_fc113 {p : Prop} (e : p := by simp -implicitDefEqProofs (disch := first | omega | (simp only [go_sem,lA,lD,lT,sched_len,hb,kc_len,addL_len,S8.l] <;> omega) | decide) only [go_sem,↓reduceIte,Nat.reduceEqDiff,reduceCtorEq]; all_goals (subst hr; rfl)) : p := e
theorem fc113 {gl : Nat → C} {M : Nat} {pu : Nat → List C → Option C} (hcx : CxOK (cxP gl M pu)) (hg1 : gl 2 = .kp (cl wC kc)) (h116 : ∀ x i j k,0 < i ∧ i < 32 → 0 < j ∧ j < 32 → 0 < k ∧ k < 32 → pu 116 [.val (w32 x),.val (nI i),.val (nI j),.val (nI k)] = some (.val (w32 (rr x i ^^^ rr x j ^^^ rr x k)))) (h115 : ∀ b : List UInt8,b.length = 64 → pu 115 [sl bC .no b] = some (.agg (cl wC (sched b 64)))) (s : S8) (b : List UInt8) (hb : b.length = 64) : FC Tryd.prog gl 113 [.agg (cl wC s.l),sl bC .no b] [] (.agg (cl wC (comp s b).l)) [] := by
 replace hcx := hcx.reN (M := 116)
 refine FC.ofA (cx := cxP gl 116 pu) (rs := [.cell 4 152]) rfl Tryd.func113 rfl rfl rfl (by simp only [List.length_cons,List.length_nil]; decide) (by simp only [go_sem]) ?_
 simp only [ini,go_sem]
 have hy := True.intro
 refine Tr.w hcx [] _ [none,none] rfl rfl rfl ?_ X_fc113
 refine Tr.w hcx [] _ [none] rfl rfl rfl ?_ X_fc113
 refine Tr.wD hcx hMO [] _ [none,none] rfl rfl rfl rfl ?_ Y_fc113
 refine Tr.seqK fun K1 hK1 => ?_
 refine Tr.w hcx [] _ [] rfl rfl rfl ?_ X_fc113
 refine Tr.k [2,4,5,6,7,21,22] ?_
 refine Tr.blk ?_
 refine Tr.loopI (α := Nat) (fun a => [(2,?v2_1),(4,?v4_1),(5,?v5_1),(6,?v6_1),(7,?v7_1),(21,?v21_1),(22,.val (nI a))]) (fun a => [some (cl wC s.l),some (cl wC (List.replicate 8 0)),some (cl wC (sched b 64)),some (cl wC [(rounds (sched b 64) s a).a,(rounds (sched b 64) s a).b,(rounds (sched b 64) s a).c,(rounds (sched b 64) s a).d]),some (cl wC [(rounds (sched b 64) s a).e,(rounds (sched b 64) s a).f,(rounds (sched b 64) s a).g,(rounds (sched b 64) s a).h])]) (fun a => a ≤ 64) (fun a => 64 - a) (0) ?_ ?le_1 ?hh_1 ?bd_1
 case hh_1 => exact rfl
 case le_1 => exact LT
 · omega
 rintro t ht
 generalize hr : rounds (sched b 64) s t = r
 refine Tr.w hcx [] _ [] rfl rfl rfl ?_ X_fc113
 refine Tr.seqK fun K2 hK2 => ?_
 refine Tr.cD rfl (fun hc23 => ?_) (fun hc23 => ?_)
 ·
  refine Tr.skip ?_
  refine hK2 _ ?_
  refine Tr.seqK fun K3 hK3 => ?_
  refine Tr.blk ?_
  refine Tr.w hcx [1000024,1000025] _ [] rfl rfl rfl ?_ X_fc113
  refine Tr.k [2,4,5,6,7,8,9,21,22] ?_
  refine Tr.wD hcx hMO [1000050] _ [] rfl rfl rfl rfl ?_ Y_fc113
  refine Tr.k [2,4,5,6,7,10,21,22] ?_
  refine Tr.wD hcx hMO [1000071] _ [] rfl rfl rfl rfl ?_ Y_fc113
  refine Tr.k [2,4,5,6,7,10,11,21,22] ?_
  refine Tr.w hcx [] _ [] rfl rfl rfl ?_ X_fc113
  refine Tr.k [2,4,5,6,7,10,11,21,22] ?_
  refine Tr.v hcx [] _ [] rfl rfl rfl ?_ X_fc113
  refine hK3 _ ?_
  refine Tr.v hcx [] _ [] rfl rfl rfl ?_ X_fc113
  exact ⟨t + 1,⟨by omega,O1⟩,LT,by simp only [rounds,hr]; rfl⟩
 obtain rfl : t = 64 := by omega
 refine Tr.exit ?_
 refine hK1 _ ?_
 refine Tr.seqK fun K4 hK4 => ?_
 refine Tr.w hcx [] _ [] rfl rfl rfl ?_ X_fc113
 refine Tr.k [2,4,6,7,94] ?_
 refine Tr.blk ?_
 refine Tr.loopI (α := Nat) (fun a => [(2,?v2_2),(4,?v4_2),(6,?v6_2),(7,?v7_2),(94,.val (nI a))]) (fun a => [some (cl wC (addL s r a)),some (cl wC (List.replicate 8 0)),some (cl wC (sched b 64)),some (cl wC [r.a,r.b,r.c,r.d]),some (cl wC [r.e,r.f,r.g,r.h])]) (fun a => a ≤ 4) (fun a => 4 - a) (0) ?_ ?le_2 ?hh_2 ?bd_2
 case hh_2 => exact rfl
 case le_2 => exact LT
 · omega
 rintro i hi
 refine Tr.w hcx [] _ [] rfl rfl rfl ?_ X_fc113
 refine Tr.seqK fun K5 hK5 => ?_
 refine Tr.cD rfl (fun hc95 => ?_) (fun hc95 => ?_)
 ·
  refine Tr.skip ?_
  refine hK5 _ ?_
  refine Tr.seqK fun K6 hK6 => ?_
  refine Tr.blk ?_
  refine Tr.w hcx [1000096] _ [] rfl rfl rfl ?_ X_fc113
  refine Tr.wD hcx hMO [] _ [] rfl rfl rfl rfl ?_ Y_fc113
  refine Tr.vD hcx hMO [] _ [] rfl rfl rfl rfl ?_ Y_fc113
  refine hK6 _ ?_
  refine Tr.k [2,4,6,7,94] ?_
  refine Tr.v hcx [] _ [] rfl rfl rfl ?_ X_fc113
  exact ⟨i + 1,⟨by omega,O1⟩,LT,by rcases (show i = 0 ∨ i = 1 ∨ i = 2 ∨ i = 3 by omega) with rfl | rfl | rfl | rfl <;> rfl⟩
 obtain rfl : i = 4 := by omega
 refine Tr.exit ?_
 refine hK4 _ ?_
 refine Tr.w hcx [] _ [] rfl rfl rfl ?_ X_fc113
 exact Tr.ret F_fc113
end Go.Sx
namespace Go.Sx
open Go.RowKit Go.Proofs
set_option maxRecDepth 100000
set_option maxHeartbeats 8000000
theorem X_fc103 {p : Prop} (e : p := by intro KZ hZ; simp -implicitDefEqProofs (disch := first | omega | (simp only [go_sem,lA,lD,lT] <;> omega) | decide) only [go_sem,↓reduceIte,Nat.reduceEqDiff,reduceCtorEq,Nat.reduceLT,Nat.reduceBEq,Nat.reduceAdd,hy]; exact hZ) : p := e
theorem F_fc103 {p : Prop} (e : p := by simp -implicitDefEqProofs (disch := first | omega | (simp only [go_sem,lA,lD,lT] <;> omega) | decide) only [go_sem,↓reduceIte,Nat.reduceEqDiff,reduceCtorEq]; all_goals (rfl)) : p := e
theorem fc103 {gl : Nat → C} {M : Nat} {pu : Nat → List C → Option C} (hcx : CxOK (cxP gl M pu)) : FC Tryd.prog gl 103 ([] : List C) [] (.agg F0.cells) [] := by
 replace hcx := hcx.reN (M := 3)
 refine FC.ofA (cx := cxP gl 3 pu) (rs := [.cell 0 155]) rfl Tryd.func103 rfl rfl rfl (by simp only [List.length_cons,List.length_nil]; decide) (by simp only [Str.cells,noRef_val,noRef_agg,noRef_tup,noRef_kp,noRef_sl,noRefs_cl,noRefs_cons,noRefs_nil,noRefs_app,Bool.and_self,Bool.and_true]) ?_
 simp only [ini,go_sem]
 have hy := True.intro
 refine Tr.w hcx [] _ [none] rfl rfl rfl ?_ X_fc103
 refine Tr.w hcx [] _ [] rfl rfl rfl ?_ X_fc103
 exact Tr.ret F_fc103
theorem X_fc104 {p : Prop} (e : p := by intro KZ hZ; simp -implicitDefEqProofs (disch := first | omega | (simp only [go_sem,lA,lD,lT,S8.l_len,Z8_len] <;> omega) | decide) only [go_sem,↓reduceIte,Nat.reduceEqDiff,reduceCtorEq,Nat.reduceLT,Nat.reduceBEq,Nat.reduceAdd,Str.cells,h113,hno,S8.l_len,take_drop_len,hy]; exact hZ) : p := e
theorem Y_fc104 {p : Prop} (e : p := by intro KZ hZ; simp -implicitDefEqProofs (disch := first | omega | (simp only [go_sem,lA,lD,lT,S8.l_len,Z8_len] <;> omega) | decide) only [go_sem,↓reduceIte,Nat.reduceEqDiff,reduceCtorEq,Nat.reduceLT,Nat.reduceBEq,Nat.reduceAdd,Str.cells,h113,hno,S8.l_len,take_drop_len,hy]; refine And.intro ?_ hZ; exact rfl) : p := e
theorem F_fc104 {p : Prop} (e : p := by simp -implicitDefEqProofs (disch := first | omega | (simp only [go_sem,lA,lD,lT,S8.l_len,Z8_len] <;> omega) | decide) only [go_sem,↓reduceIte,Nat.reduceEqDiff,reduceCtorEq]; all_goals (rw [hGe]; rfl)) : p := e
theorem fc104 {gl : Nat → C} {M : Nat} {pu : Nat → List C → Option C} (hcx : CxOK (cxP gl M pu)) (h113 : ∀ (s : S8) (b : List UInt8),b.length = 64 → pu 113 [.agg (cl wC s.l),sl bC .no b] = some (.agg (cl wC (comp s b).l))) (hno : ∀ (g : Nat) (xs : List C),refy xs = true → pu g xs = none) (F : Str) (t : List UInt8) (hb : F.blk.length = 64) (hn : F.n + t.length < 1152921504606846976) : FC Tryd.prog gl 104 [.agg F.cells,.val (str t)] [] (.agg (feed F t).cells) [] := by
 replace hcx := hcx.reN (M := 38)
 refine FC.ofA (cx := cxP gl 38 pu) (rs := [.cell 4 155]) rfl Tryd.func104 rfl rfl rfl (by simp only [List.length_cons,List.length_nil]; decide) (by simp only [Str.cells,noRef_val,noRef_agg,noRef_tup,noRef_kp,noRef_sl,noRefs_cl,noRefs_cons,noRefs_nil,noRefs_app,Bool.and_self,Bool.and_true]) ?_
 simp only [ini,go_sem]
 have hy := True.intro
 refine Tr.w hcx [] _ [none,none] rfl rfl rfl ?_ X_fc104
 refine Tr.k [1,2,4] ?_
 refine Tr.seqK fun K1 hK1 => ?_
 refine Tr.blk ?_
 refine Tr.loopI (α := Nat) (fun a => [(1,.val (str (t.drop a))),(2,?v2_1),(4,?v4_1)]) (fun a => [some (feed F (t.take a)).cells,some (cl wC Z8 ++ (cl bC (List.replicate 64 0) ++ [.val (nU 0)]))]) (fun a => a ≤ t.length) (fun a => t.length - a) (0) ?_ ?le_1 ?hh_1 ?bd_1
 case hh_1 => exact rfl
 case le_1 => exact LT
 · omega
 rintro c hc
 have hGn := feed_n (t.take c) F
 have hGb := feed_len (t.take c) F
 rw [hb] at hGb
 rw [List.length_take,Nat.min_eq_left hc] at hGn
 have hdl : (t.drop c).length = t.length - c := List.length_drop
 generalize hG : feed F (t.take c) = G at *
 generalize hL : t.drop c = L at *
 refine Tr.seqK fun K2 hK2 => ?_
 refine Tr.w hcx [] _ [] rfl rfl rfl ?_ X_fc104
 refine Tr.cD rfl (fun hc8 => ?_) (fun hc8 => ?_)
 ·
  have hlp : 0 < L.length := List.length_pos_iff.2 hc8
  refine Tr.skip ?_
  refine hK2 _ ?_
  refine Tr.blk ?_
  refine Tr.w hcx [1000012] _ [] rfl rfl rfl ?_ X_fc104
  refine Tr.w hcx [1000017] _ [] rfl rfl rfl ?_ X_fc104
  refine Tr.w hcx [1000020] _ [] rfl rfl rfl ?_ X_fc104
  refine Tr.w hcx [] _ [] rfl rfl rfl ?_ X_fc104
  refine Tr.k [1,2,4,5,6] ?_
  refine Tr.w hcx [] _ [] rfl rfl rfl ?_ X_fc104
  refine Tr.cD rfl (fun hc30 => ?_) (fun hc30 => ?_)
  ·
   refine Tr.vD hcx hMO [] _ [] rfl rfl rfl rfl ?_ Y_fc104
   refine ⟨c + min L.length (64 - G.n % 64),⟨by omega,O1⟩,?_,by dsimp only; rw [add_step F G t L c hG hL hGb hc8]; first | (rw [if_pos hc30] <;> rfl) | (rw [if_neg hc30] <;> rfl)⟩
   (simp only [Le_nil,Le_cons,↓A_cons,↓reduceIte,Nat.reduceEqDiff,CLe_refl,CLe_top,CLe_full,CLe_nil,CLe_own,and_true,true_and]; all_goals (repeat' first | exact CLe.refl _ | exact True.intro | (refine CLe_sln ?_; first | rfl | (simp only [List.take_zero]; done)) | exact CLe_nI (by omega) | exact CLe_int (by omega) | exact CLe_inI (by omega) | exact CLe_nIi (by omega) | with_reducible apply And.intro))
   all_goals (rw [← hL,List.drop_drop]; exact CLe.refl _)
  refine Tr.skip ?_
  refine ⟨c + min L.length (64 - G.n % 64),⟨by omega,O1⟩,?_,by dsimp only; rw [add_step F G t L c hG hL hGb hc8]; first | (rw [if_pos hc30] <;> rfl) | (rw [if_neg hc30] <;> rfl)⟩
  (simp only [Le_nil,Le_cons,↓A_cons,↓reduceIte,Nat.reduceEqDiff,CLe_refl,CLe_top,CLe_full,CLe_nil,CLe_own,and_true,true_and]; all_goals (repeat' first | exact CLe.refl _ | exact True.intro | (refine CLe_sln ?_; first | rfl | (simp only [List.take_zero]; done)) | exact CLe_nI (by omega) | exact CLe_int (by omega) | exact CLe_inI (by omega) | exact CLe_nIi (by omega) | with_reducible apply And.intro))
  all_goals (rw [← hL,List.drop_drop]; exact CLe.refl _)
 have hL0 : L = [] := Classical.not_not.1 hc8
 have hc0 : c = t.length := by rw [hL0] at hdl; simp only [List.length_nil] at hdl; omega
 have hGe : feed F t = G := by rw [← hG,hc0,List.take_length]
 refine Tr.exit ?_
 refine hK1 _ ?_
 refine Tr.w hcx [] _ [] rfl rfl rfl ?_ X_fc104
 exact Tr.ret F_fc104
theorem X_fc105 {p : Prop} (e : p := by intro KZ hZ; simp -implicitDefEqProofs (disch := first | omega | (simp only [go_sem,lA,lD,lT,S8.l_len,be64_len,dig_len,feed_len,hb] <;> omega) | decide) only [go_sem,↓reduceIte,Nat.reduceEqDiff,reduceCtorEq,Nat.reduceLT,Nat.reduceBEq,Nat.reduceAdd,Str.cells,h104,S8.l_len,be64_len,dig_len,set_rep,Str_eta,hy]; exact hZ) : p := e
theorem F_fc105 {p : Prop} (e : p := by simp -implicitDefEqProofs (disch := first | omega | (simp only [go_sem,lA,lD,lT,S8.l_len,be64_len,dig_len,feed_len,hb] <;> omega) | decide) only [go_sem,↓reduceIte,Nat.reduceEqDiff,reduceCtorEq]; all_goals (simp [sumF,dig_len])) : p := e
theorem fc105 {gl : Nat → C} {M : Nat} {pu : Nat → List C → Option C} (hcx : CxOK (cxP gl M pu)) (h104 : ∀ (s : S8) (blk : List UInt8) (n : Nat) (t : List UInt8),blk.length = 64 → n + t.length < 1152921504606846976 → pu 104 [.agg (cl wC s.l ++ (cl bC blk ++ [.val (nU n)])),.val (str t)] = some (.agg (feed ⟨s,blk,n⟩ t).cells)) (F : Str) (hb : F.blk.length = 64) (hn : F.n < 576460752303423488) : FC Tryd.prog gl 105 [.agg F.cells] [] (.agg (cl bC (sumF F))) [] := by
 replace hcx := hcx.reN (M := 58)
 refine FC.ofA (cx := cxP gl 58 pu) (rs := [.cell 2 141]) rfl Tryd.func105 rfl rfl rfl (by simp only [List.length_cons,List.length_nil]; decide) (by simp only [go_sem]) ?_
 simp only [ini,go_sem]
 have hy := True.intro
 have hz : zpad F.n < 64 := Nat.mod_lt _ (by decide)
 refine Tr.w hcx [] _ [none,none] rfl rfl rfl ?_ X_fc105
 refine Tr.w hcx [1000010] _ [] rfl rfl rfl ?_ X_fc105
 refine Tr.w hcx [1000011] _ [] rfl rfl rfl ?_ X_fc105
 refine Tr.k [1,2,3,4] ?_
 refine Tr.seqK fun K1 hK1 => ?_
 refine Tr.blk ?_
 refine Tr.loopI (α := Nat) (fun a => [(1,?v1_1),(2,?v2_1),(3,?v3_1),(4,sl bC (.own 1) (128 :: List.replicate a 0))]) (fun a => [some F.cells,some (cl bC (List.replicate 32 0))]) (fun a => a ≤ zpad F.n) (fun a => zpad F.n - a) (0) ?_ ?le_1 ?hh_1 ?bd_1
 case hh_1 => exact rfl
 case le_1 => (simp only [Le_nil,Le_cons,↓A_cons,↓reduceIte,Nat.reduceEqDiff,CLe_refl,CLe_top,CLe_full,CLe_nil,CLe_own,and_true,true_and]; all_goals (repeat' first | exact CLe.refl _ | exact True.intro | (refine CLe_sln ?_; first | rfl | (simp only [List.take_zero]; done)) | exact CLe_nI (by omega) | exact CLe_int (by omega) | exact CLe_inI (by omega) | exact CLe_nIi (by omega) | with_reducible apply And.intro)); exact CLe.full _ _ _
 · omega
 rintro z hzz
 refine Tr.seqK fun K2 hK2 => ?_
 refine Tr.w hcx [] _ [] rfl rfl rfl ?_ X_fc105
 refine Tr.cD rfl (fun hc19 => ?_) (fun hc19 => ?_)
 ·
  refine Tr.skip ?_
  refine hK2 _ ?_
  refine Tr.blk ?_
  refine Tr.v hcx [20,1000022] _ [] rfl rfl rfl ?_ X_fc105
  refine ⟨z + 1,⟨by unfold zpad at *; omega,by unfold zpad at *; omega⟩,?_,rfl⟩
  (simp only [Le_nil,Le_cons,↓A_cons,↓reduceIte,Nat.reduceEqDiff,CLe_refl,CLe_top,CLe_full,CLe_nil,CLe_own,and_true,true_and]; all_goals (repeat' first | exact CLe.refl _ | exact True.intro | (refine CLe_sln ?_; first | rfl | (simp only [List.take_zero]; done)) | exact CLe_nI (by omega) | exact CLe_int (by omega) | exact CLe_inI (by omega) | exact CLe_nIi (by omega) | with_reducible apply And.intro))
  all_goals (rw [List.replicate_succ']; exact CLe.refl _)
 obtain rfl : z = zpad F.n := by unfold zpad at *; omega
 refine Tr.exit ?_
 refine hK1 _ ?_
 refine Tr.seqK fun K3 hK3 => ?_
 refine Tr.w hcx [] _ [] rfl rfl rfl ?_ X_fc105
 refine Tr.k [1,2,3,4,23] ?_
 refine Tr.blk ?_
 refine Tr.loopI (α := Nat) (fun a => [(1,?v1_2),(2,?v2_2),(3,?v3_2),(4,sl bC (.own 1) (128 :: List.replicate (zpad F.n) 0 ++ be64 (8 * F.n) a)),(23,.val (nI a))]) (fun a => [some F.cells,some (cl bC (List.replicate 32 0))]) (fun a => a ≤ 8) (fun a => 8 - a) (0) ?_ ?le_2 ?hh_2 ?bd_2
 case hh_2 => exact rfl
 case le_2 => (simp only [Le_nil,Le_cons,↓A_cons,↓reduceIte,Nat.reduceEqDiff,CLe_refl,CLe_top,CLe_full,CLe_nil,CLe_own,and_true,true_and]; all_goals (repeat' first | exact CLe.refl _ | exact True.intro | (refine CLe_sln ?_; first | rfl | (simp only [List.take_zero]; done)) | exact CLe_nI (by omega) | exact CLe_int (by omega) | exact CLe_inI (by omega) | exact CLe_nIi (by omega) | with_reducible apply And.intro)); all_goals (simp only [be64,List.range_zero,List.map_nil,List.append_nil]; exact CLe.refl _)
 · omega
 rintro k hk
 refine Tr.w hcx [] _ [] rfl rfl rfl ?_ X_fc105
 refine Tr.seqK fun K4 hK4 => ?_
 refine Tr.cD rfl (fun hc24 => ?_) (fun hc24 => ?_)
 ·
  refine Tr.skip ?_
  refine hK4 _ ?_
  refine Tr.seqK fun K5 hK5 => ?_
  refine Tr.blk ?_
  refine Tr.w hcx [1000025] _ [] rfl rfl rfl ?_ X_fc105
  refine Tr.v hcx [26,1000034] _ [] rfl rfl rfl ?_ X_fc105
  refine hK5 _ ?_
  refine Tr.v hcx [] _ [] rfl rfl rfl ?_ X_fc105
  refine ⟨k + 1,⟨by omega,O1⟩,?_,rfl⟩
  (simp only [Le_nil,Le_cons,↓A_cons,↓reduceIte,Nat.reduceEqDiff,CLe_refl,CLe_top,CLe_full,CLe_nil,CLe_own,and_true,true_and]; all_goals (repeat' first | exact CLe.refl _ | exact True.intro | (refine CLe_sln ?_; first | rfl | (simp only [List.take_zero]; done)) | exact CLe_nI (by omega) | exact CLe_int (by omega) | exact CLe_inI (by omega) | exact CLe_nIi (by omega) | with_reducible apply And.intro))
  all_goals (rw [be64_succ,← List.append_assoc]; exact CLe.refl _)
 obtain rfl : k = 8 := by omega
 refine Tr.exit ?_
 refine hK3 _ ?_
 refine Tr.w hcx [] _ [] rfl rfl rfl ?_ X_fc105
 refine Tr.w hcx [] _ [none] rfl rfl rfl ?_ X_fc105
 refine Tr.seqK fun K6 hK6 => ?_
 refine Tr.w hcx [] _ [] rfl rfl rfl ?_ X_fc105
 refine Tr.k [1,2,6,40] ?_
 refine Tr.blk ?_
 refine Tr.loopI (α := Nat) (fun a => [(1,?v1_3),(2,?v2_3),(6,?v6_3),(40,.val (nI a))]) (fun a => [some (feed F (pad F.n)).cells,some (cl bC (List.replicate 32 0)),some (cl bC (dig (feed F (pad F.n)).s a ++ List.replicate (32 - a) 0))]) (fun a => a ≤ 32) (fun a => 32 - a) (0) ?_ ?le_3 ?hh_3 ?bd_3
 case hh_3 => exact rfl
 case le_3 => exact LT
 · omega
 rintro i hi
 refine Tr.w hcx [] _ [] rfl rfl rfl ?_ X_fc105
 refine Tr.seqK fun K7 hK7 => ?_
 refine Tr.cD rfl (fun hc41 => ?_) (fun hc41 => ?_)
 ·
  refine Tr.skip ?_
  refine hK7 _ ?_
  refine Tr.seqK fun K8 hK8 => ?_
  refine Tr.blk ?_
  refine Tr.w hcx [1000042] _ [] rfl rfl rfl ?_ X_fc105
  refine Tr.v hcx [] _ [] rfl rfl rfl ?_ X_fc105
  refine hK8 _ ?_
  refine Tr.v hcx [] _ [] rfl rfl rfl ?_ X_fc105
  exact ⟨i + 1,⟨by omega,O1⟩,LT,by dsimp only; rw [← dig_next _ i hc41]; rfl⟩
 obtain rfl : i = 32 := by omega
 refine Tr.exit ?_
 refine hK6 _ ?_
 refine Tr.w hcx [] _ [] rfl rfl rfl ?_ X_fc105
 exact Tr.ret F_fc105
end Go.Sx
namespace Go.Sx
open Go.RowKit Go.Proofs
set_option maxRecDepth 100000
set_option maxHeartbeats 8000000
theorem X_fc78 {p : Prop} (e : p := by intro KZ hZ; simp -implicitDefEqProofs (disch := first | omega | (simp only [go_sem,lA,lD,lT,S8.l_len,feed_len,F0_len,feed_n,F0_n,sumF_len,hlp1,hlp2] <;> omega) | decide) only [go_sem,↓reduceIte,Nat.reduceEqDiff,reduceCtorEq,Nat.reduceLT,Nat.reduceBEq,Nat.reduceAdd,h103,h104,h105,h74,Str.cells,Str_eta,sumF_len,hy]; exact hZ) : p := e
theorem Y_fc78 {p : Prop} (e : p := by intro KZ hZ; simp -implicitDefEqProofs (disch := first | omega | (simp only [go_sem,lA,lD,lT,S8.l_len,feed_len,F0_len,feed_n,F0_n,sumF_len,hlp1,hlp2] <;> omega) | decide) only [go_sem,↓reduceIte,Nat.reduceEqDiff,reduceCtorEq,Nat.reduceLT,Nat.reduceBEq,Nat.reduceAdd,h103,h104,h105,h74,Str.cells,Str_eta,sumF_len,hy]; refine And.intro ?_ hZ; exact rfl) : p := e
theorem F_fc78 {p : Prop} (e : p := by simp -implicitDefEqProofs (disch := first | omega | (simp only [go_sem,lA,lD,lT,S8.l_len,feed_len,F0_len,feed_n,F0_n,sumF_len,hlp1,hlp2] <;> omega) | decide) only [go_sem,↓reduceIte,Nat.reduceEqDiff,reduceCtorEq]; all_goals (simp only [sha,List.take_length])) : p := e
theorem fc78 {gl : Nat → C} {M : Nat} {pu : Nat → List C → Option C} (hcx : CxOK (cxP gl M pu)) (h103 : pu 103 [] = some (.agg F0.cells)) (h104 : ∀ (s : S8) (blk : List UInt8) (n : Nat) (t : List UInt8),blk.length = 64 → n + t.length < 1152921504606846976 → pu 104 [.agg (cl wC s.l ++ (cl bC blk ++ [.val (nU n)])),.val (str t)] = some (.agg (feed ⟨s,blk,n⟩ t).cells)) (h105 : ∀ (s : S8) (blk : List UInt8) (n : Nat),blk.length = 64 → n < 576460752303423488 → pu 105 [.agg (cl wC s.l ++ (cl bC blk ++ [.val (nU n)]))] = some (.agg (cl bC (sumF ⟨s,blk,n⟩)))) (h74 : ∀ s : List UInt8,s.length < 70368744177664 → pu 74 [.val (str s)] = some (sl bC (.own 1) (wb s))) (tag : Int) (parts : List (List UInt8)) (hl : (inp tag parts).length < 1099511627776) : FC Tryd.prog gl 78 [.val (.int .i64 tag),sl sC .no parts] [] (.agg (cl bC ((sha (inp tag parts)).take 16))) [] := by
 replace hcx := hcx.reN (M := 32)
 refine FC.ofA (cx := cxP gl 32 pu) (rs := [.cell 4 29]) rfl Tryd.func78 rfl rfl rfl (by simp only [List.length_cons,List.length_nil]; decide) (by simp only [go_sem]) ?_
 simp only [ini,go_sem]
 have hy := True.intro
 have hlp := parts_bound tag parts hl
 have hlp1 := hl
 have hpl := parts_len tag parts hl
 have hlp2 := True.intro
 refine Tr.w hcx [] _ [none] rfl rfl rfl ?_ X_fc78
 refine Tr.wD hcx hMO [] _ [none] rfl rfl rfl rfl ?_ Y_fc78
 refine Tr.seqK fun K1 hK1 => ?_
 refine Tr.w hcx [] _ [] rfl rfl rfl ?_ X_fc78
 refine Tr.k [4,5,15,16,17] ?_
 refine Tr.blk ?_
 refine Tr.loopI (α := Nat) (fun a => [(4,?v4_1),(5,?v5_1),(15,?v15_1),(16,?v16_1),(17,.val (nI a))]) (fun a => [some (cl bC (List.replicate 16 0)),some (feed F0 (inp tag (parts.take a))).cells]) (fun a => a ≤ parts.length) (fun a => parts.length - a) (0) ?_ ?le_1 ?hh_1 ?bd_1
 case hh_1 => exact rfl
 case le_1 => exact LT
 · omega
 rintro i hi
 refine Tr.w hcx [] _ [] rfl rfl rfl ?_ X_fc78
 refine Tr.seqK fun K2 hK2 => ?_
 refine Tr.cD rfl (fun hc18 => ?_) (fun hc18 => ?_)
 ·
  obtain ⟨hlp1,hlp2⟩ := hlp i hc18
  refine Tr.skip ?_
  refine hK2 _ ?_
  refine Tr.seqK fun K3 hK3 => ?_
  refine Tr.blk ?_
  refine Tr.w hcx [1000020] _ [] rfl rfl rfl ?_ X_fc78
  refine Tr.vD hcx hMO [] _ [] rfl rfl rfl rfl ?_ Y_fc78
  refine hK3 _ ?_
  refine Tr.v hcx [] _ [] rfl rfl rfl ?_ X_fc78
  exact ⟨i + 1,⟨by omega,O1⟩,LT,by dsimp only; rw [inp_take tag parts i hc18,feed_app] <;> rfl⟩
 obtain rfl : i = parts.length := by omega
 have hlp1 := hl
 have hlp2 := True.intro
 simp only [List.take_length]
 refine Tr.exit ?_
 refine hK1 _ ?_
 refine Tr.w hcx [] _ [none] rfl rfl rfl ?_ X_fc78
 refine Tr.w hcx [] _ [] rfl rfl rfl ?_ X_fc78
 exact Tr.ret F_fc78
end Go.Sx
namespace Go.Sx
open Go.RowKit Go.Proofs
end Go.Sx
