/-
   And what follows.
-/
import Derived.Test.YtcpdlhgkdogdjaaDoorPal
set_option linter.unusedSimpArgs false
set_option linter.unusedVariables false
namespace Go.Sx
open Go.RowKit Go.Proofs
set_option maxRecDepth 100000
set_option maxHeartbeats 8000000
def d8 (s:List UInt8)(i:Nat):Nat:=i+1+jl (kd (gt s i)) (s.drop (i+1))
theorem ue (s:List UInt8)(i:Nat)(h:i< s.length):i< d8 s i∧d8 s i≤s.length:=by
 unfold d8;have:=EX (kd (gt s i)) (s.drop (i+1));rw[List.length_drop] at this;omega
theorem Qh {s:List UInt8}{k j:Nat}(hk:k< 2)(h:j< s.length)(he:kd (gt s j) =k):j+1+jl k (s.drop (j+1)) =j+jl k (s.drop j):=by
 have e:s[j] =gt s j:=by simp[gt,List.getD,List.getElem?_eq_getElem h]
 rw[List.drop_eq_getElem_cons h,e];show _=j+(if k< 2∧kd (gt s j) =k then _ else 0);rw[if_pos ⟨hk,he⟩];omega
theorem Gx {s:List UInt8}{k j:Nat}(h:¬ (k< 2∧j< s.length∧kd (gt s j) =k)):jl k (s.drop j) =0:=by
 by_cases hj:j< s.length
 . have e:s[j] =gt s j:=by simp[gt,List.getD,List.getElem?_eq_getElem hj]
   rw[List.drop_eq_getElem_cons hj,e];show (if k< 2∧kd (gt s j) =k then _ else 0) =0;exact if_neg (fun q=>h ⟨q.1,hj,q.2⟩)
 . rw[List.drop_of_length_le (by omega)];rfl
theorem Qi {s:List UInt8}{i:Nat}(h:i< s.length)(hc:gt s i≠32):eT i none (s.drop i) = ⟨i,d8 s i,kd (gt s i)⟩::eT (d8 s i) none (s.drop (d8 s i)):=by
 have e:s[i] =gt s i:=by simp[gt,List.getD,List.getElem?_eq_getElem h]
 rw[List.drop_eq_getElem_cons h,e,OG _ _ _ hc,List.drop_drop];rfl
theorem Qj {s:List UInt8}{i:Nat}(h:i< s.length)(hc:gt s i=32):eT i none (s.drop i) =eT (i+1) none (s.drop (i+1)):=by
 have e:s[i] =gt s i:=by simp[gt,List.getD,List.getElem?_eq_getElem h]
 rw[List.drop_eq_getElem_cons h,e,hc,EY]
theorem Kq {s:List UInt8}{i:Nat}{out:List Tok}(h:i< s.length)(hl:out.length≤i)(hr:out++eT i none (s.drop i) =jf s):
 (if gt s i=32 then (i+1,out) else (d8 s i,out++[⟨i,d8 s i,kd (gt s i)⟩])).1≤s.length∧(if gt s i=32 then (i+1,out) else (d8 s i,out++[⟨i,d8 s i,kd (gt s i)⟩])).2.length≤(if gt s i=32 then (i+1,out) else (d8 s i,out++[⟨i,d8 s i,kd (gt s i)⟩])).1∧
 (if gt s i=32 then (i+1,out) else (d8 s i,out++[⟨i,d8 s i,kd (gt s i)⟩])).2++eT (if gt s i=32 then (i+1,out) else (d8 s i,out++[⟨i,d8 s i,kd (gt s i)⟩])).1 none (s.drop (if gt s i=32 then (i+1,out) else (d8 s i,out++[⟨i,d8 s i,kd (gt s i)⟩])).1) =jf s:=by
 split
 . rename_i hb
   exact ⟨h,Nat.le_succ_of_le hl,by rw[←Qj h hb];exact hr⟩
 . rename_i hb
   have:=ue s i h;refine ⟨this.2,?_,?_⟩
   . simp only[List.length_append,List.length_singleton];omega
   . rw[List.append_assoc,List.singleton_append,←Qi h hb];exact hr
theorem Cn {s:List UInt8}{i j:Nat}(h2:kd (gt s i) < 2)(h3:j< s.length)(h:kd (gt s j) =kd (gt s i))(hr:j+jl (kd (gt s i)) (s.drop j) =d8 s i):j+1+jl (kd (gt s i)) (s.drop (j+1)) =d8 s i:=by rw[Qh h2 h3 h];exact hr
theorem aY {p:Prop}(e:p:=by intro KZ hZ;simp -implicitDefEqProofs (disch:=first|omega| (simp only[go_sem,lA,lD,lT] <;>omega) |decide) only[go_sem,↓reduceIte,Nat.reduceEqDiff,reduceCtorEq,Nat.reduceLT,Nat.reduceBEq,Nat.reduceAdd,a1,a2,a3,a4,a5,a6,hy];with_reducible exact hZ):p:=e
theorem cB {p:Prop}(e:p:=by simp -implicitDefEqProofs (disch:=first|omega| (simp only[go_sem,lA,lD,lT] <;>omega) |decide) only[go_sem,↓reduceIte,Nat.reduceEqDiff,reduceCtorEq];all_goals (exact congrArg (fun z=>some (C.val (nI z))) (by unfold kd;((all_goals (try simp only[UInt8.le_iff_toNat_le,←UInt8.toNat_inj,UInt8.reduceToNat,UInt8.reduceOfNat] at a1));(all_goals (try simp only[UInt8.le_iff_toNat_le,←UInt8.toNat_inj,UInt8.reduceToNat,UInt8.reduceOfNat] at a2));(all_goals (try simp only[UInt8.le_iff_toNat_le,←UInt8.toNat_inj,UInt8.reduceToNat,UInt8.reduceOfNat] at a3));(all_goals (try simp only[UInt8.le_iff_toNat_le,←UInt8.toNat_inj,UInt8.reduceToNat,UInt8.reduceOfNat] at a4));(all_goals (try simp only[UInt8.le_iff_toNat_le,←UInt8.toNat_inj,UInt8.reduceToNat,UInt8.reduceOfNat] at a5));(all_goals (try simp only[UInt8.le_iff_toNat_le,←UInt8.toNat_inj,UInt8.reduceToNat,UInt8.reduceOfNat] at a6));(all_goals (try simp only[UInt8.le_iff_toNat_le,←UInt8.toNat_inj,UInt8.reduceToNat,UInt8.reduceOfNat] at hc25));simp only[UInt8.le_iff_toNat_le,←UInt8.toNat_inj,UInt8.reduceToNat,UInt8.reduceOfNat];(repeat' split);(all_goals first|rfl|omega))))):p:=e
theorem Xr {gl:Nat→C}{M:Nat}{pu:Nat→List C→Option C}(hcx:CxOK (ax gl M pu))(c:UInt8):FC Tryd.prog gl 100 [.val (w8 c)] [] (.val (nI (kd c))) []:=by
 replace hcx:=hcx.reN (M:=28);refine aH (cx:=ax gl 28 pu) (rs:=[.tmp 2]) rfl Tryd.func100 rfl rfl rfl (by simp only[List.length_cons,List.length_nil];decide) (by simp only[go_sem]) ?_;simp only[bj,go_sem];have ⟨a1,a2,a3,a4,a5,a6,hy⟩:=AY;refine Tr.w hcx [] _ [] rfl rfl rfl ?_ aY;refine aa fun K1 hK1=>?_;refine Tr.blk ?_;by_cases a1:UInt8.ofNat 97≤c
 ·
  by_cases a2:c≤UInt8.ofNat 122
  ·
   refine Tr.w hcx [1000017] [some 4,some 5,some 6,some 7,some 8,some 9,some 10,some 11,some 12,some 13,some 14,some 15,some 16,some 17,some 3] [] rfl rfl rfl ?_ aY;refine aG rfl ?_;refine Tr.w hcx [] _ [] rfl rfl rfl ?_ aY;exact Tr.ret cB
  by_cases a3:UInt8.ofNat 65≤c
  ·
   by_cases a4:c≤UInt8.ofNat 90
   ·
    refine Tr.w hcx [1000017] [some 4,some 5,some 6,some 7,some 8,some 9,some 10,some 11,some 12,some 13,some 14,some 15,some 16,some 17,some 3] [] rfl rfl rfl ?_ aY;refine aG rfl ?_;refine Tr.w hcx [] _ [] rfl rfl rfl ?_ aY;exact Tr.ret cB
   refine Tr.w hcx [1000017] [some 4,some 5,some 6,some 7,some 8,some 9,some 10,some 11,some 12,some 13,some 14,some 15,some 16,some 17,some 3] [] rfl rfl rfl ?_ aY;refine aq rfl ?_;by_cases a5:UInt8.ofNat 48≤c
   ·
    by_cases a6:c≤UInt8.ofNat 57
    ·
     refine Tr.w hcx [1000024] [some 19,some 20,some 21,some 22,some 23,some 24,some 18] [] rfl rfl rfl ?_ aY;refine aG rfl ?_;refine Tr.w hcx [] _ [] rfl rfl rfl ?_ aY;exact Tr.ret cB
    refine Tr.w hcx [1000024] [some 19,some 20,some 21,some 22,some 23,some 24,some 18] [] rfl rfl rfl ?_ aY;refine aq rfl ?_;refine Tr.w hcx [1000027] _ [] rfl rfl rfl ?_ aY;refine Tr.k [25] ?_;refine af rfl (fun hc25=>?_) (fun hc25=>?_)
    ·
     refine Tr.w hcx [] _ [] rfl rfl rfl ?_ aY;exact Tr.ret cB
    refine Tr.skip ?_;refine hK1 _ ?_;refine Tr.w hcx [] _ [] rfl rfl rfl ?_ aY;exact Tr.ret cB
   refine Tr.w hcx [1000024] [some 19,some 20,some 21,some 22,some 23,some 24,some 18] [] rfl rfl rfl ?_ aY;refine aq rfl ?_;refine Tr.w hcx [1000027] _ [] rfl rfl rfl ?_ aY;refine Tr.k [25] ?_;refine af rfl (fun hc25=>?_) (fun hc25=>?_)
   ·
    refine Tr.w hcx [] _ [] rfl rfl rfl ?_ aY;exact Tr.ret cB
   refine Tr.skip ?_;refine hK1 _ ?_;refine Tr.w hcx [] _ [] rfl rfl rfl ?_ aY;exact Tr.ret cB
  refine Tr.w hcx [1000017] [some 4,some 5,some 6,some 7,some 8,some 9,some 10,some 11,some 12,some 13,some 14,some 15,some 16,some 17,some 3] [] rfl rfl rfl ?_ aY;refine aq rfl ?_;by_cases a5:UInt8.ofNat 48≤c
  ·
   by_cases a6:c≤UInt8.ofNat 57
   ·
    refine Tr.w hcx [1000024] [some 19,some 20,some 21,some 22,some 23,some 24,some 18] [] rfl rfl rfl ?_ aY;refine aG rfl ?_;refine Tr.w hcx [] _ [] rfl rfl rfl ?_ aY;exact Tr.ret cB
   refine Tr.w hcx [1000024] [some 19,some 20,some 21,some 22,some 23,some 24,some 18] [] rfl rfl rfl ?_ aY;refine aq rfl ?_;refine Tr.w hcx [1000027] _ [] rfl rfl rfl ?_ aY;refine Tr.k [25] ?_;refine af rfl (fun hc25=>?_) (fun hc25=>?_)
   ·
    refine Tr.w hcx [] _ [] rfl rfl rfl ?_ aY;exact Tr.ret cB
   refine Tr.skip ?_;refine hK1 _ ?_;refine Tr.w hcx [] _ [] rfl rfl rfl ?_ aY;exact Tr.ret cB
  refine Tr.w hcx [1000024] [some 19,some 20,some 21,some 22,some 23,some 24,some 18] [] rfl rfl rfl ?_ aY;refine aq rfl ?_;refine Tr.w hcx [1000027] _ [] rfl rfl rfl ?_ aY;refine Tr.k [25] ?_;refine af rfl (fun hc25=>?_) (fun hc25=>?_)
  ·
   refine Tr.w hcx [] _ [] rfl rfl rfl ?_ aY;exact Tr.ret cB
  refine Tr.skip ?_;refine hK1 _ ?_;refine Tr.w hcx [] _ [] rfl rfl rfl ?_ aY;exact Tr.ret cB
 by_cases a3:UInt8.ofNat 65≤c
 ·
  by_cases a4:c≤UInt8.ofNat 90
  ·
   refine Tr.w hcx [1000017] [some 4,some 5,some 6,some 7,some 8,some 9,some 10,some 11,some 12,some 13,some 14,some 15,some 16,some 17,some 3] [] rfl rfl rfl ?_ aY;refine aG rfl ?_;refine Tr.w hcx [] _ [] rfl rfl rfl ?_ aY;exact Tr.ret cB
  refine Tr.w hcx [1000017] [some 4,some 5,some 6,some 7,some 8,some 9,some 10,some 11,some 12,some 13,some 14,some 15,some 16,some 17,some 3] [] rfl rfl rfl ?_ aY;refine aq rfl ?_;by_cases a5:UInt8.ofNat 48≤c
  ·
   by_cases a6:c≤UInt8.ofNat 57
   ·
    refine Tr.w hcx [1000024] [some 19,some 20,some 21,some 22,some 23,some 24,some 18] [] rfl rfl rfl ?_ aY;refine aG rfl ?_;refine Tr.w hcx [] _ [] rfl rfl rfl ?_ aY;exact Tr.ret cB
   refine Tr.w hcx [1000024] [some 19,some 20,some 21,some 22,some 23,some 24,some 18] [] rfl rfl rfl ?_ aY;refine aq rfl ?_;refine Tr.w hcx [1000027] _ [] rfl rfl rfl ?_ aY;refine Tr.k [25] ?_;refine af rfl (fun hc25=>?_) (fun hc25=>?_)
   ·
    refine Tr.w hcx [] _ [] rfl rfl rfl ?_ aY;exact Tr.ret cB
   refine Tr.skip ?_;refine hK1 _ ?_;refine Tr.w hcx [] _ [] rfl rfl rfl ?_ aY;exact Tr.ret cB
  refine Tr.w hcx [1000024] [some 19,some 20,some 21,some 22,some 23,some 24,some 18] [] rfl rfl rfl ?_ aY;refine aq rfl ?_;refine Tr.w hcx [1000027] _ [] rfl rfl rfl ?_ aY;refine Tr.k [25] ?_;refine af rfl (fun hc25=>?_) (fun hc25=>?_)
  ·
   refine Tr.w hcx [] _ [] rfl rfl rfl ?_ aY;exact Tr.ret cB
  refine Tr.skip ?_;refine hK1 _ ?_;refine Tr.w hcx [] _ [] rfl rfl rfl ?_ aY;exact Tr.ret cB
 refine Tr.w hcx [1000017] [some 4,some 5,some 6,some 7,some 8,some 9,some 10,some 11,some 12,some 13,some 14,some 15,some 16,some 17,some 3] [] rfl rfl rfl ?_ aY;refine aq rfl ?_;by_cases a5:UInt8.ofNat 48≤c
 ·
  by_cases a6:c≤UInt8.ofNat 57
  ·
   refine Tr.w hcx [1000024] [some 19,some 20,some 21,some 22,some 23,some 24,some 18] [] rfl rfl rfl ?_ aY;refine aG rfl ?_;refine Tr.w hcx [] _ [] rfl rfl rfl ?_ aY;exact Tr.ret cB
  refine Tr.w hcx [1000024] [some 19,some 20,some 21,some 22,some 23,some 24,some 18] [] rfl rfl rfl ?_ aY;refine aq rfl ?_;refine Tr.w hcx [1000027] _ [] rfl rfl rfl ?_ aY;refine Tr.k [25] ?_;refine af rfl (fun hc25=>?_) (fun hc25=>?_)
  ·
   refine Tr.w hcx [] _ [] rfl rfl rfl ?_ aY;exact Tr.ret cB
  refine Tr.skip ?_;refine hK1 _ ?_;refine Tr.w hcx [] _ [] rfl rfl rfl ?_ aY;exact Tr.ret cB
 refine Tr.w hcx [1000024] [some 19,some 20,some 21,some 22,some 23,some 24,some 18] [] rfl rfl rfl ?_ aY;refine aq rfl ?_;refine Tr.w hcx [1000027] _ [] rfl rfl rfl ?_ aY;refine Tr.k [25] ?_;refine af rfl (fun hc25=>?_) (fun hc25=>?_)
 ·
  refine Tr.w hcx [] _ [] rfl rfl rfl ?_ aY;exact Tr.ret cB
 refine Tr.skip ?_;refine hK1 _ ?_;refine Tr.w hcx [] _ [] rfl rfl rfl ?_ aY;exact Tr.ret cB
theorem eY {p:Prop}(e:p:=by intro KZ hZ;simp -implicitDefEqProofs (disch:=first|omega| (simp only[go_sem,lA,lD,lT] <;>omega) |decide) only[go_sem,↓reduceIte,Nat.reduceEqDiff,reduceCtorEq,Nat.reduceLT,Nat.reduceBEq,Nat.reduceAdd,h100,b1,b2,b3,hy];with_reducible exact hZ):p:=e
theorem pJ {p:Prop}(e:p:=by simp -implicitDefEqProofs (disch:=first|omega| (simp only[go_sem,lA,lD,lT] <;>omega) |decide) only[go_sem,↓reduceIte,Nat.reduceEqDiff,reduceCtorEq];all_goals (exact congrArg (fun z=>some (C.val (nI z))) (by rw[←hr,Gx (by intro hh;first|exact b3 hh.2.1|omega)];rfl))):p:=e
theorem abN {gl:Nat→C}{M:Nat}{pu:Nat→List C→Option C}(hcx:CxOK (ax gl M pu))(h100:∀c:UInt8,pu 100 [.val (w8 c)] =some (.val (nI (kd c))))(s:List UInt8)(i:Nat)(hs:i< s.length∧s.length≤1000000):FC Tryd.prog gl 99 [.val (nI i),.kp [.val (str s)]] [] (.val (nI (d8 s i))) []:=by
 replace hcx:=hcx.reN (M:=35);refine aH (cx:=ax gl 35 pu) (rs:=[.tmp 3]) rfl Tryd.func99 rfl rfl rfl (by simp only[List.length_cons,List.length_nil];decide) (by simp only[go_sem]) ?_;simp only[bj,go_sem];have ⟨b1,b2,b3,hy⟩:=jd;refine Tr.w hcx [] _ [] rfl rfl rfl ?_ eY;refine Tr.w hcx [1000009] _ [] rfl rfl rfl ?_ eY;refine Tr.w hcx [1000011] _ [] rfl rfl rfl ?_ eY;refine Tr.k [1,4,5] ?_;refine aa fun K1 hK1=>?_;refine Tr.blk ?_;refine ao (α:=Nat) (fun a=>[(1,?v1_1),(4,?v4_1),(5,.val (nI a))]) (fun a=>?h_1) (fun a=>i< a∧a≤s.length∧a+jl (kd (gt s i)) (s.drop a) =d8 s i) (fun a=>s.length - a) (i+1) ⟨Nat.lt_succ_self _,hs.1,rfl⟩ ?le_1 ?hh_1 ?bd_1
 case hh_1=>exact rfl
 case le_1=>exact LT
 rintro j ⟨hj,hj2,hr⟩;refine aa fun K2 hK2=>?_;by_cases b1:kd (gt s i) =0
 ·
  by_cases b3:j< s.length
  ·
   refine Tr.w hcx [] [some 12,some 13,some 14,some 15,some 16,some 17,some 18,some 19,some 20,some 21,some 22,some 23,some 24,some 25,some 26,some 27,some 28,some 29,some 30,some 31] [] rfl rfl rfl ?_ eY;refine af rfl (fun hc31=>?_) (fun hc31=>?_)
   ·
    have b12:kd (gt s i) < 2:=by omega
    refine Tr.skip ?_;refine hK2 _ ?_;refine Tr.blk ?_;refine Tr.v hcx [1000033] _ [] rfl rfl rfl ?_ eY;exact ⟨j+1,⟨⟨by omega,by omega,Cn (by omega) b3 (by omega) hr⟩,O1⟩,LT,rfl⟩
   refine Tr.exit ?_;refine hK1 _ ?_;refine Tr.w hcx [1000034] _ [] rfl rfl rfl ?_ eY;exact Tr.ret pJ
  refine Tr.w hcx [] [some 12,some 13,some 14,some 15,some 16,some 17,some 18,some 19,some 20,some 21,some 22,some 23,some 24,some 25,some 26,some 27,some 28,some 29,some 30,some 31] [] rfl rfl rfl ?_ eY;refine aq rfl ?_;refine Tr.exit ?_;refine hK1 _ ?_;refine Tr.w hcx [1000034] _ [] rfl rfl rfl ?_ eY;exact Tr.ret pJ
 by_cases b2:kd (gt s i) =1
 ·
  by_cases b3:j< s.length
  ·
   refine Tr.w hcx [] [some 12,some 13,some 14,some 15,some 16,some 17,some 18,some 19,some 20,some 21,some 22,some 23,some 24,some 25,some 26,some 27,some 28,some 29,some 30,some 31] [] rfl rfl rfl ?_ eY;refine af rfl (fun hc31=>?_) (fun hc31=>?_)
   ·
    have b12:kd (gt s i) < 2:=by omega
    refine Tr.skip ?_;refine hK2 _ ?_;refine Tr.blk ?_;refine Tr.v hcx [1000033] _ [] rfl rfl rfl ?_ eY;exact ⟨j+1,⟨⟨by omega,by omega,Cn (by omega) b3 (by omega) hr⟩,O1⟩,LT,rfl⟩
   refine Tr.exit ?_;refine hK1 _ ?_;refine Tr.w hcx [1000034] _ [] rfl rfl rfl ?_ eY;exact Tr.ret pJ
  refine Tr.w hcx [] [some 12,some 13,some 14,some 15,some 16,some 17,some 18,some 19,some 20,some 21,some 22,some 23,some 24,some 25,some 26,some 27,some 28,some 29,some 30,some 31] [] rfl rfl rfl ?_ eY;refine aq rfl ?_;refine Tr.exit ?_;refine hK1 _ ?_;refine Tr.w hcx [1000034] _ [] rfl rfl rfl ?_ eY;exact Tr.ret pJ
 refine Tr.w hcx [] [some 12,some 13,some 14,some 15,some 16,some 17,some 18,some 19,some 20,some 21,some 22,some 23,some 24,some 25,some 26,some 27,some 28,some 29,some 30,some 31] [] rfl rfl rfl ?_ eY;refine aq rfl ?_;refine Tr.exit ?_;refine hK1 _ ?_;refine Tr.w hcx [1000034] _ [] rfl rfl rfl ?_ eY;exact Tr.ret pJ
theorem hU {p:Prop}(e:p:=by intro KZ hZ;simp -implicitDefEqProofs (disch:=first|omega| (simp only[go_sem,lA,lD,lT] <;>omega) |decide) only[go_sem,↓reduceIte,Nat.reduceEqDiff,reduceCtorEq,Nat.reduceLT,Nat.reduceBEq,Nat.reduceAdd,h99,h100,hno,hy];with_reducible exact hZ):p:=e
theorem Qk {p:Prop}(e:p:=by simp -implicitDefEqProofs (disch:=first|omega| (simp only[go_sem,lA,lD,lT] <;>omega) |decide) only[go_sem,↓reduceIte,Nat.reduceEqDiff,reduceCtorEq];all_goals (rw[←hr];simp[eT])):p:=e
theorem abO {gl:Nat→C}{M:Nat}{pu:Nat→List C→Option C}(hcx:CxOK (ax gl M pu))(h99:∀ (s:List UInt8) (i:Nat),i< s.length∧s.length≤1000000→pu 99 [.val (nI i),.kp [.val (str s)]] =some (.val (nI (d8 s i))))(h100:∀c:UInt8,pu 100 [.val (w8 c)] =some (.val (nI (kd c))))(hno:∀ (g:Nat) (xs:List C),gb xs=true→pu g xs=none)(s:List UInt8)(hs:s.length≤1000000):FC Tryd.prog gl 62 [.val (str s)] [] (sl tC (.own 3) (jf s)) []:=by
 replace hcx:=hcx.reN (M:=33);refine aH (cx:=ax gl 33 pu) (rs:=[.tmp 2]) rfl Tryd.func62 rfl rfl rfl (by simp only[List.length_cons,List.length_nil];decide) (by simp only[go_sem]) ?_;simp only[bj,go_sem];have hy:=True.intro;refine Tr.w hcx [] _ [none] rfl rfl rfl ?_ hU;refine Tr.w hcx [] _ [] rfl rfl rfl ?_ hU;refine Tr.w hcx [1000007] _ [] rfl rfl rfl ?_ hU;refine aa fun K1 hK1=>?_;refine Tr.w hcx [] _ [] rfl rfl rfl ?_ hU;refine Tr.k [1,3,4,5] ?_;refine Tr.blk ?_;refine ao (α:=(Nat×List Tok)) (fun a=>[(1,?v1_1),(3,sl tC (.own 3) a.2),(4,?v4_1),(5,.val (nI a.1))]) (fun a=>[some [.val (str s)]]) (fun a=>a.1≤s.length∧a.2.length≤a.1∧a.2++eT a.1 none (s.drop a.1) =jf s) (fun a=>s.length - a.1) ((0,[])) ⟨Nat.zero_le _,Nat.le_refl _,rfl⟩ ?le_1 ?hh_1 ?bd_1
 case hh_1=>exact rfl
 case le_1=>exact LT
 rintro ⟨i,out⟩ ⟨hi,hlen,hr⟩
 dsimp only at*
 refine aa fun K2 hK2=>?_;refine Tr.w hcx [] _ [] rfl rfl rfl ?_ hU;refine af rfl (fun hc11=>?_) (fun hc11=>?_)
 ·
  refine Tr.skip ?_;refine hK2 _ ?_;refine Tr.blk ?_;refine aa fun K3 hK3=>?_;refine Tr.w hcx [] _ [] rfl rfl rfl ?_ hU;refine af rfl (fun hc15=>?_) (fun hc15=>?_)
  ·
   have hc15:gt s i=32:=hc15;refine Tr.w hcx [1000017] _ [] rfl rfl rfl ?_ hU;refine Tr.exit ?_;refine ⟨if gt s i=32 then (i+1,out) else (d8 s i,out++[⟨i,d8 s i,kd (gt s i)⟩]),⟨Kq hc11 hlen hr,by have:=ue s i hc11;split<;>simp only[] <;>omega⟩,?_,rfl⟩
   (simp only[aX,aK,↓aT,↓reduceIte,Nat.reduceEqDiff,aE,aM,aF,aN,aO,and_true,true_and];all_goals (repeat' first|exact CLe.refl _|exact True.intro| (refine ay ?_;first|rfl| (simp only[List.take_zero];done)) |exact aV (by omega) |exact aB (by omega) |exact aJ (by omega) |exact aP (by omega) |with_reducible apply And.intro))
   all_goals (first|rw[if_pos hc15] |rw[if_neg hc15])
   all_goals exact CLe.refl _
  have hc15:¬gt s i=32:=hc15;refine Tr.skip ?_;refine hK3 _ ?_;refine Tr.w hcx [1000020] _ [] rfl rfl rfl ?_ hU;refine Tr.k [1,3,4,5,6] ?_;refine Tr.w hcx [21,1000030] _ [] rfl rfl rfl ?_ hU;refine Tr.v hcx [1000031] _ [] rfl rfl rfl ?_ hU;refine ⟨if gt s i=32 then (i+1,out) else (d8 s i,out++[⟨i,d8 s i,kd (gt s i)⟩]),⟨Kq hc11 hlen hr,by have:=ue s i hc11;split<;>simp only[] <;>omega⟩,?_,rfl⟩
  (simp only[aX,aK,↓aT,↓reduceIte,Nat.reduceEqDiff,aE,aM,aF,aN,aO,and_true,true_and];all_goals (repeat' first|exact CLe.refl _|exact True.intro| (refine ay ?_;first|rfl| (simp only[List.take_zero];done)) |exact aV (by omega) |exact aB (by omega) |exact aJ (by omega) |exact aP (by omega) |with_reducible apply And.intro))
  all_goals (first|rw[if_pos hc15] |rw[if_neg hc15])
  all_goals exact CLe.refl _
 have hie:i=s.length:=by omega
 subst hie;rw[List.drop_length] at hr;refine Tr.exit ?_;refine hK1 _ ?_;refine Tr.w hcx [1000032] _ [] rfl rfl rfl ?_ hU;exact Tr.ret Qk
def oF (k:Nat)(l:List Tok)(n:Nat):List Nat:=(List.range n).filter fun i=>decide ((gt l i).k=k)
theorem wy (k:Nat)(l:List Tok)(n:Nat): (oF k l n).length≤n:=by
 unfold oF;have:=List.length_filter_le (fun i=>decide ((gt l i).k=k)) (List.range n);simpa using this
theorem Co {k:Nat}{l:List Tok}{n:Nat}(h: (gt l n).k=k):oF k l n++[n] =oF k l (n+1):=by
 unfold oF;rw[List.range_succ,List.filter_append];simp[h]
theorem Cp {k:Nat}{l:List Tok}{n:Nat}(h:¬ (gt l n).k=k):oF k l n=oF k l (n+1):=by
 unfold oF;rw[List.range_succ,List.filter_append];simp[h]
theorem jg {p:Prop}(e:p:=by intro KZ hZ;simp -implicitDefEqProofs (disch:=first|omega| (simp only[go_sem,lA,lD,lT,hb1] <;>omega) |decide) only[go_sem,↓reduceIte,Nat.reduceEqDiff,reduceCtorEq,Nat.reduceLT,Nat.reduceBEq,Nat.reduceAdd,hy];with_reducible exact hZ):p:=e
theorem Ql {p:Prop}(e:p:=by simp -implicitDefEqProofs (disch:=first|omega| (simp only[go_sem,lA,lD,lT,hb1] <;>omega) |decide) only[go_sem,↓reduceIte,Nat.reduceEqDiff,reduceCtorEq];all_goals (rfl)):p:=e
theorem abP {gl:Nat→C}{M:Nat}{pu:Nat→List C→Option C}(hcx:CxOK (ax gl M pu))(l:List Tok)(k:Nat)(hl:l.length≤1000000):FC Tryd.prog gl 63 [sl tC .no l,.val (nI k)] [] (sl nC (.own 1) (EZ k l)) []:=by
 replace hcx:=hcx.reN (M:=25);refine aH (cx:=ax gl 25 pu) (rs:=[.tmp 4]) rfl Tryd.func63 rfl rfl rfl (by simp only[List.length_cons,List.length_nil];decide) (by simp only[go_sem]) ?_;simp only[bj,go_sem];have ⟨hy,hb1⟩:=fo;refine Tr.w hcx [] _ [] rfl rfl rfl ?_ jg;refine Tr.w hcx [] _ [] rfl rfl rfl ?_ jg;refine aa fun K1 hK1=>?_;refine Tr.w hcx [] _ [] rfl rfl rfl ?_ jg;refine Tr.k [1,5,8,9,10] ?_;refine Tr.blk ?_;refine ao (α:=Nat) (fun a=>[(1,?v1_1),(5,sl nC (.own 1) (oF k l a)),(8,?v8_1),(9,?v9_1),(10,.val (nI a))]) (fun a=>[]) (fun a=>a≤l.length) (fun a=>l.length - a) (0) ?_ ?le_1 ?hh_1 ?bd_1
 case hh_1=>exact rfl
 case le_1=>exact LT
 . omega
 rintro i hi;have hb1:=wy k l i;refine Tr.w hcx [] _ [] rfl rfl rfl ?_ jg;refine aa fun K2 hK2=>?_;refine af rfl (fun hc11=>?_) (fun hc11=>?_)
 ·
  refine Tr.skip ?_;refine hK2 _ ?_;refine aa fun K3 hK3=>?_;refine Tr.blk ?_;refine Tr.w hcx [1000012] _ [none] rfl rfl rfl ?_ jg;refine Tr.w hcx [] _ [] rfl rfl rfl ?_ jg;refine af rfl (fun hc18=>?_) (fun hc18=>?_)
  ·
   refine Tr.v hcx [19,1000022] _ [] rfl rfl rfl ?_ jg;refine hK3 _ ?_;refine Tr.k [1,5,8,9,10] ?_;refine aW hcx [] ?_;refine Tr.v hcx [] _ [] rfl rfl rfl ?_ jg;refine ⟨i+1,⟨by omega,O1⟩,?_,rfl⟩
   (simp only[aX,aK,↓aT,↓reduceIte,Nat.reduceEqDiff,aE,aM,aF,aN,aO,and_true,true_and];all_goals (repeat' first|exact CLe.refl _|exact True.intro| (refine ay ?_;first|rfl| (simp only[List.take_zero];done)) |exact aV (by omega) |exact aB (by omega) |exact aJ (by omega) |exact aP (by omega) |with_reducible apply And.intro))
   all_goals (refine fE ?_;first|exact Co hc18|exact Cp hc18)
  refine Tr.skip ?_;refine hK3 _ ?_;refine Tr.k [1,5,8,9,10] ?_;refine aW hcx [] ?_;refine Tr.v hcx [] _ [] rfl rfl rfl ?_ jg;refine ⟨i+1,⟨by omega,O1⟩,?_,rfl⟩
  (simp only[aX,aK,↓aT,↓reduceIte,Nat.reduceEqDiff,aE,aM,aF,aN,aO,and_true,true_and];all_goals (repeat' first|exact CLe.refl _|exact True.intro| (refine ay ?_;first|rfl| (simp only[List.take_zero];done)) |exact aV (by omega) |exact aB (by omega) |exact aJ (by omega) |exact aP (by omega) |with_reducible apply And.intro))
  all_goals (refine fE ?_;first|exact Co hc18|exact Cp hc18)
 obtain rfl:i=l.length:=by omega
 refine Tr.exit ?_;refine hK1 _ ?_;refine Tr.w hcx [1000024] _ [] rfl rfl rfl ?_ jg;exact Tr.ret Ql
theorem LV (k:Nat)(l:List Tok): (EZ k l).length≤l.length:=wy k l l.length
theorem Cq {p:Prop}(e:p:=by intro KZ hZ;simp -implicitDefEqProofs (disch:=first|omega| (simp only[go_sem,lA,lD,lT] <;>omega) |decide) only[go_sem,↓reduceIte,Nat.reduceEqDiff,reduceCtorEq,Nat.reduceLT,Nat.reduceBEq,Nat.reduceAdd,h62,h63,hy];with_reducible exact hZ):p:=e
theorem abQ {gl:Nat→C}{M:Nat}{pu:Nat→List C→Option C}(hcx:CxOK (ax gl M pu))(h62:∀s:List UInt8,s.length≤1000000→pu 62 [.val (str s)] =some (sl tC (.own 3) (jf s)))(h63:∀ (l:List Tok) (k:Nat),l.length≤1000000→pu 63 [sl tC .no l,.val (nI k)] =some (sl nC (.own 1) (EZ k l)))(s:List UInt8)(hs:s.length≤1000000):FC Tryd.prog gl 16 [.val (str s)] [] (sl nC (.own 1) (fG s)) []:=by
 replace hcx:=hcx.reN (M:=6);refine aH (cx:=ax gl 6 pu) (rs:=[.tmp 2]) rfl Tryd.func16 rfl rfl rfl (by simp only[List.length_cons,List.length_nil];decide) (by simp only[go_sem]) ?_;simp only[bj,go_sem];have hy:=True.intro;have hT:=se s;refine Tr.w hcx [] _ [] rfl rfl rfl ?_ Cq;refine Tr.w hcx [1000005] _ [] rfl rfl rfl ?_ Cq;exact Tr.ret mA
theorem Xs {s:List UInt8}{i:Nat}(h:i< s.length)(hb:m7 s i=true):Tu s=true:=List.any_eq_true.2 ⟨i,List.mem_range.2 h,hb⟩
theorem AQ {s:List UInt8}(h:∀j,j< s.length→m7 s j=false):¬Tu s=true:=by
 intro hb;obtain ⟨i,h1,h2⟩:=List.any_eq_true.1 hb;rw[h i (List.mem_range.1 h1)] at h2;cases h2
theorem lV {p:Prop}(e:p:=by intro KZ hZ;simp -implicitDefEqProofs (disch:=first|omega| (simp only[go_sem,lA,lD,lT] <;>omega) |decide) only[go_sem,↓reduceIte,Nat.reduceEqDiff,reduceCtorEq,Nat.reduceLT,Nat.reduceBEq,Nat.reduceAdd,b1,b2,b3,b4,b5,hy];with_reducible exact hZ):p:=e
theorem nH {p:Prop}(e:p:=by simp -implicitDefEqProofs (disch:=first|omega| (simp only[go_sem,lA,lD,lT] <;>omega) |decide) only[go_sem,↓reduceIte,Nat.reduceEqDiff,reduceCtorEq];all_goals (exact congrArg (fun z=>some (C.val (.bool z))) (by unfold m7;simp_all<;>omega))):p:=e
theorem abR {gl:Nat→C}{M:Nat}{pu:Nat→List C→Option C}(hcx:CxOK (ax gl M pu))(s:List UInt8)(i:Nat)(hs:i< s.length∧s.length≤1000000):FC Tryd.prog gl 61 [.val (nI i),.kp [.val (str s)]] [] (.val (.bool (m7 s i))) []:=by
 replace hcx:=hcx.reN (M:=38);refine aH (cx:=ax gl 38 pu) (rs:=[.tmp 3]) rfl Tryd.func61 rfl rfl rfl (by simp only[List.length_cons,List.length_nil];decide) (by simp only[go_sem]) ?_;simp only[bj,go_sem];have ⟨b1,b2,b3,b4,b5,hy⟩:=wM;refine Tr.w hcx [] _ [] rfl rfl rfl ?_ lV;refine Tr.k [0,1] ?_;by_cases b1:gt s i< UInt8.ofNat 32
 ·
  refine Tr.w hcx [1000037] [some 4,some 5,some 6,some 7,some 8,some 9,some 10,some 11,some 12,some 13,some 14,some 15,some 16,some 17,some 18,some 19,some 20,some 21,some 22,some 23,some 24,some 25,some 26,some 27,some 28,some 29,some 30,some 31,some 32,some 33,some 34,some 35,some 36,some 37,some 3] [] rfl rfl rfl ?_ lV;refine Tr.k [3] ?_;exact Tr.ret nH
 by_cases b2:UInt8.ofNat 126< gt s i
 ·
  refine Tr.w hcx [1000037] [some 4,some 5,some 6,some 7,some 8,some 9,some 10,some 11,some 12,some 13,some 14,some 15,some 16,some 17,some 18,some 19,some 20,some 21,some 22,some 23,some 24,some 25,some 26,some 27,some 28,some 29,some 30,some 31,some 32,some 33,some 34,some 35,some 36,some 37,some 3] [] rfl rfl rfl ?_ lV;refine Tr.k [3] ?_;exact Tr.ret nH
 by_cases b3:gt s i=UInt8.ofNat 32
 ·
  have b3o:=b3;replace b3:=eq_true b3;by_cases b4:i=0
  ·
   have b4o:=b4;replace b4:=eq_true b4;refine Tr.w hcx [1000037] [some 4,some 5,some 6,some 7,some 8,some 9,some 10,some 11,some 12,some 13,some 14,some 15,some 16,some 17,some 18,some 19,some 20,some 21,some 22,some 23,some 24,some 25,some 26,some 27,some 28,some 29,some 30,some 31,some 32,some 33,some 34,some 35,some 36,some 37,some 3] [] rfl rfl rfl ?_ lV;refine Tr.k [3] ?_;exact Tr.ret nH
  have b4o:=b4;replace b4:=eq_false b4;by_cases b5:i=s.length - 1
  ·
   have b5o:=b5;replace b5:=eq_true b5;refine Tr.w hcx [1000037] [some 4,some 5,some 6,some 7,some 8,some 9,some 10,some 11,some 12,some 13,some 14,some 15,some 16,some 17,some 18,some 19,some 20,some 21,some 22,some 23,some 24,some 25,some 26,some 27,some 28,some 29,some 30,some 31,some 32,some 33,some 34,some 35,some 36,some 37,some 3] [] rfl rfl rfl ?_ lV;refine Tr.k [3] ?_;exact Tr.ret nH
  have b5o:=b5;replace b5:=eq_false b5;refine Tr.w hcx [1000037] [some 4,some 5,some 6,some 7,some 8,some 9,some 10,some 11,some 12,some 13,some 14,some 15,some 16,some 17,some 18,some 19,some 20,some 21,some 22,some 23,some 24,some 25,some 26,some 27,some 28,some 29,some 30,some 31,some 32,some 33,some 34,some 35,some 36,some 37,some 3] [] rfl rfl rfl ?_ lV;refine Tr.k [3] ?_;exact Tr.ret nH
 have b3o:=b3;replace b3:=eq_false b3;refine Tr.w hcx [1000037] [some 4,some 5,some 6,some 7,some 8,some 9,some 10,some 11,some 12,some 13,some 14,some 15,some 16,some 17,some 18,some 19,some 20,some 21,some 22,some 23,some 24,some 25,some 26,some 27,some 28,some 29,some 30,some 31,some 32,some 33,some 34,some 35,some 36,some 37,some 3] [] rfl rfl rfl ?_ lV;refine Tr.k [3] ?_;exact Tr.ret nH
theorem eZ {p:Prop}(e:p:=by intro KZ hZ;simp -implicitDefEqProofs (disch:=first|omega| (simp only[go_sem,lA,lD,lT] <;>omega) |decide) only[go_sem,↓reduceIte,Nat.reduceEqDiff,reduceCtorEq,Nat.reduceLT,Nat.reduceBEq,Nat.reduceAdd,h62,h61,hno,hy];with_reducible exact hZ):p:=e
theorem pK {p:Prop}(e:p:=by simp -implicitDefEqProofs (disch:=first|omega| (simp only[go_sem,lA,lD,lT] <;>omega) |decide) only[go_sem,↓reduceIte,Nat.reduceEqDiff,reduceCtorEq];all_goals (exact congrArg (fun z=>some (C.val (nI z))) (by unfold fF;first|rw[if_pos hc7] |rw[if_neg hc7,if_pos (Xs hc12 hc16)] |rw[if_neg hc7,if_neg (AQ hA),if_pos hc18] |rw[if_neg hc7,if_neg (AQ hA),if_neg hc18,if_pos hc21] |rw[if_neg hc7,if_neg (AQ hA),if_neg hc18,if_neg hc21]))):p:=e
theorem abS {gl:Nat→C}{M:Nat}{pu:Nat→List C→Option C}(hcx:CxOK (ax gl M pu))(h62:∀s:List UInt8,s.length≤1000000→pu 62 [.val (str s)] =some (sl tC (.own 3) (jf s)))(h61:∀ (s:List UInt8) (i:Nat),i< s.length∧s.length≤1000000→pu 61 [.val (nI i),.kp [.val (str s)]] =some (.val (.bool (m7 s i))))(hno:∀ (g:Nat) (xs:List C),gb xs=true→pu g xs=none)(s:List UInt8)(hs:s.length≤1000000):FC Tryd.prog gl 15 [.val (str s)] [] (.val (nI (fF s))) []:=by
 replace hcx:=hcx.reN (M:=26);refine aH (cx:=ax gl 26 pu) (rs:=[.tmp 2]) rfl Tryd.func15 rfl rfl rfl (by simp only[List.length_cons,List.length_nil];decide) (by simp only[go_sem]) ?_;simp only[bj,go_sem];have hy:=True.intro;have hT:=se s;refine Tr.w hcx [] _ [none] rfl rfl rfl ?_ eZ;refine aa fun K1 hK1=>?_;refine Tr.w hcx [] _ [] rfl rfl rfl ?_ eZ;refine af rfl (fun hc7=>?_) (fun hc7=>?_)
 ·
  refine Tr.w hcx [] _ [] rfl rfl rfl ?_ eZ;exact Tr.ret pK
 refine Tr.skip ?_;refine hK1 _ ?_;refine Tr.w hcx [1000008] _ [] rfl rfl rfl ?_ eZ;refine aa fun K2 hK2=>?_;refine Tr.w hcx [] _ [] rfl rfl rfl ?_ eZ;refine Tr.k [1,3,10,11] ?_;refine Tr.blk ?_;refine ao (α:=Nat) (fun a=>[(1,?v1_1),(3,?v3_1),(10,?v10_1),(11,.val (nI a))]) (fun a=>[some [.val (str s)]]) (fun a=>a≤s.length∧∀j,j< a→m7 s j=false) (fun a=>s.length - a) (0) ⟨Nat.zero_le _,fun j hj=>absurd hj (Nat.not_lt_zero j)⟩ ?le_1 ?hh_1 ?bd_1
 case hh_1=>exact rfl
 case le_1=>exact LT
 rintro i ⟨hi,hA⟩;refine Tr.w hcx [] _ [] rfl rfl rfl ?_ eZ;refine aa fun K3 hK3=>?_;refine af rfl (fun hc12=>?_) (fun hc12=>?_)
 ·
  refine Tr.skip ?_;refine hK3 _ ?_;refine aa fun K4 hK4=>?_;refine Tr.blk ?_;refine Tr.w hcx [1000013] _ [] rfl rfl rfl ?_ eZ;refine Tr.w hcx [] _ [] rfl rfl rfl ?_ eZ;refine Tr.condG fun KT KF hT hF=>?_;simp only[ga,xa,↓aT,↓reduceIte,Nat.reduceEqDiff,reduceCtorEq,jP,zv,xb,decide_eq_true_eq];refine GB.mk (fun hc16=>hT ?_) (fun hc16=>hF ?_)
  ·
   refine Tr.w hcx [] _ [] rfl rfl rfl ?_ eZ;exact Tr.ret pK
  refine Tr.skip ?_;refine hK4 _ ?_;refine Tr.v hcx [] _ [] rfl rfl rfl ?_ eZ;exact ⟨i+1,⟨⟨by omega,fun j hj=>(Nat.lt_or_eq_of_le (Nat.le_of_lt_succ hj)).elim (hA j) (fun e=>e▸hc16)⟩,O1⟩,LT,rfl⟩
 obtain rfl:i=s.length:=by omega
 refine Tr.exit ?_;refine hK2 _ ?_;refine aa fun K5 hK5=>?_;refine Tr.blk ?_;refine Tr.w hcx [1000020] _ [] rfl rfl rfl ?_ eZ;refine af rfl (fun hc18=>?_) (fun hc18=>?_)
 ·
  refine Tr.w hcx [] _ [] rfl rfl rfl ?_ eZ;exact Tr.ret pK
 refine Tr.w hcx [1000025] _ [] rfl rfl rfl ?_ eZ;refine af rfl (fun hc21=>?_) (fun hc21=>?_)
 ·
  refine Tr.w hcx [] _ [] rfl rfl rfl ?_ eZ;exact Tr.ret pK
 refine Tr.skip ?_;refine hK5 _ ?_;refine Tr.w hcx [] _ [] rfl rfl rfl ?_ eZ;exact Tr.ret pK
end Go.Sx
namespace Go.Sx
def ag (n:Int)(m:Nat):Nat:=((if n< 0 then -(n+1) else n).tmod (m:Int)).toNat
theorem ti (n:Int)(m:Nat): (((ag n m:Nat):Int)) = (if n< 0 then -(n+1) else n).tmod (m:Int):=by
 unfold ag;refine Int.toNat_of_nonneg (Int.tmod_nonneg _ ?_);split<;>omega
theorem bv (n:Int){m:Nat}(h:0< m):ag n m< m:=by
 have h1:=ti n m;have h2:=Int.tmod_lt_of_pos (if n< 0 then -(n+1) else n) (b:=(m:Int)) (by omega);omega
def cu (l:List Int)(i m:Nat):Nat:=if l.length≤i then 0 else ag (gt l i) m
theorem en (l:List Int)(i:Nat){m:Nat}(h:0< m):cu l i m< m:=by
 unfold cu;split
 . exact h
 . exact bv _ h
def uI (c:UInt8):UInt8:=if 97≤c∧c≤122 then c - 97+65 else c
def qm:List UInt8→List UInt8
 | [] =>[]
 |c::r=>uI c::r
def pm (w:List UInt8)(n:Nat):List UInt8:=
 if n=6 then qm w else if n=7 then w++[44] else if n=8 then w++[46] else if n=9 then qm w++[46] else if n=10 then [40]++w++[41] else if n=11 then w++[63] else w
def wlist:List (List UInt8):=[[97,110,110,97],[114,111,109,101],[107,105,110,103],[116,104,101],[111,102],[111,100,101],[108,121,114,101],[120],[49,50]]
def mF (n:Nat):List UInt8:=pm (gt wlist (n % 9)) (n / 9)
def eE (l:List Int)(k:Nat):Nat→List UInt8
 |0=>[]
 |i+1=>(if 0< i then eE l k i++[32] else eE l k i)++mF (cu l (k+1+i) 108)
def iY (l:List Int)(k:Nat):List UInt8:=eE l k (1+cu l k 9)
theorem xY {α:Type}[Inhabited α](l:List α)(p:α→Bool)(h:l.all p=true)(i:Nat)(hi:i< l.length):p (gt l i) =true:=by
 have e:gt l i=l[i]:=by simp[gt,List.getD,List.getElem?_eq_getElem hi]
 rw[e];exact List.all_eq_true.1 h _ (List.getElem_mem hi)
def pF (p:Bool):List UInt8→Bool
 | [] => !p
 |c::r=>if c=32 then !p && pF true r else decide (32≤c) && decide (c≤126) && pF false r
theorem Jt: (List.range 108).all (fun n=>pF true (mF n) && decide ((mF n).length≤7) && decide (0< (mF n).length)) =true:=by decide+kernel
theorem uJ:∀ (x:List UInt8)(p:Bool)(y:List UInt8),pF p x=true→pF true y=true→pF p (x++32::y) =true
 | [],p,y,hx,hy=>by
   simp only[pF,Bool.not_eq_true'] at hx;subst hx
   simp only[List.nil_append,pF,if_pos,Bool.not_false,Bool.true_and,hy]
 |c::r,p,y,hx,hy=>by
  simp only[pF,List.cons_append] at hx ⊢;by_cases hc:c=32
  . rw[if_pos hc] at hx ⊢
    simp only[Bool.and_eq_true] at hx ⊢;exact ⟨hx.1,uJ r true y hx.2 hy⟩
  . rw[if_neg hc] at hx ⊢
    simp only[Bool.and_eq_true] at hx ⊢;exact ⟨hx.1,uJ r false y hx.2 hy⟩
theorem z7 (n:Nat)(h:n< 108):pF true (mF n) =true∧(mF n).length≤7∧0< (mF n).length:=by
 have:=List.all_eq_true.1 Jt n (List.mem_range.2 h);simp only[Bool.and_eq_true,decide_eq_true_eq] at this;exact ⟨this.1.1,this.1.2,this.2⟩
theorem sf (l:List Int)(k:Nat):∀i,0< i→pF true (eE l k i) =true∧(eE l k i).length≤8*i∧0< (eE l k i).length
 |0,h=>absurd h (Nat.lt_irrefl 0)
 |1,_=>by
  have:=z7 (cu l (k+1+0) 108) (en _ _ (by decide));have e:eE l k 1=mF (cu l (k+1+0) 108):=by simp[eE]
  rw[e];exact ⟨this.1,by omega,this.2.2⟩
 |i+2,_=>by
  obtain ⟨h1,h2,h3⟩:=sf l k (i+1) (by omega);have u:=z7 (cu l (k+1+(i+1)) 108) (en _ _ (by decide));have e:eE l k (i+2) =eE l k (i+1)++32::mF (cu l (k+1+(i+1)) 108):=by
   rw[eE,if_pos (by omega)];simp
  rw[e];exact ⟨uJ _ _ _ h1 u.1,by simp;omega,by simp;omega⟩
theorem E0 (l:List Int)(k i:Nat): (eE l k i).length≤8*i:=by
 cases i with
 |zero=>simp[eE]
 |succ i=>exact (sf l k (i+1) (by omega)).2.1
theorem sg (l:List Int)(k:Nat):pF true (iY l k) =true∧(iY l k).length≤72∧0< (iY l k).length:=by
 have h:=en l k (m:=9) (by decide);have:=sf l k (1+cu l k 9) (by omega);unfold iY;exact ⟨this.1,by omega,this.2.2⟩
end Go.Sx
namespace Go.Sx
open Go.RowKit Go.Proofs
set_option maxRecDepth 100000
set_option maxHeartbeats 8000000
def LI (l:List Int):Prop:=l.length≤9223372036854775807∧∀i,i< l.length→ -9223372036854775808≤gt l i∧gt l i≤9223372036854775807
theorem Qm {c:UInt8}(h1:UInt8.ofNat 97≤c)(h2:c≤UInt8.ofNat 122):c - UInt8.ofNat 97+UInt8.ofNat 65=uI c:=by
 unfold uI;exact (if_pos (c:=97≤c∧c≤122) ⟨h1,h2⟩).symm
theorem Qn {c:UInt8}(h:¬ (UInt8.ofNat 97≤c∧c≤UInt8.ofNat 122)):c=uI c:=by
 unfold uI;exact (if_neg h).symm
theorem Gy {w:List UInt8}(h:0< w.length):w.set 0 (uI (gt w 0)) =qm w:=by
 cases w with
 |nil=>simp at h
 |cons c r=>rfl
theorem Qo {w:List UInt8}(h:¬ (UInt8.ofNat 97≤gt w 0∧gt w 0≤UInt8.ofNat 122)):w=qm w:=by
 cases w with
 |nil=>rfl
 |cons c r=>exact congrArg (fun z=>z::r) (Qn h)
theorem oG (w:List UInt8): (qm w).length=w.length:=by cases w<;>rfl
theorem oH {x y:List UInt8}(h:x=y): (some (C.val (str x))) =some (C.val (str y)):=by rw[h]
theorem Qp (i:Nat): (gt wlist i).length≤4:=by
 by_cases h:i< 9
 . have:=xY wlist (fun c=>decide (c.length≤4)) (by decide) i h
   simpa using this
 . have e:gt wlist i= []:=by
    unfold gt List.getD;rw[List.getElem?_eq_none (by show 9≤i;omega)];rfl
   rw[e];decide
theorem Gz:sl sC .full ((((((((((List.replicate 9 []).set 0 [97,110,110,97]).set 1 [114,111,109,101]).set 2 [107,105,110,103]).set 3 [116,104,101]).set 4 [111,102]).set 5 [111,100,101]).set 6 [108,121,114,101]).set 7 [120]).set 8 [49,50]) =sl sC .full wlist:=rfl
theorem wz:wlist.length=9:=rfl
theorem zb (l:List Int)(k i:Nat)(h:0< i):eE l k (i+1) =eE l k i++[32]++mF (cu l (k+1+i) 108):=by rw[eE,if_pos h]
theorem zd (l:List Int)(k i:Nat)(h:¬0< i):eE l k (i+1) =eE l k i++mF (cu l (k+1+i) 108):=by rw[eE,if_neg h]
theorem GA (w:List UInt8)(n:Nat): (pm w n).length≤w.length+2:=by
 unfold pm
 repeat' split
 all_goals (try simp only[List.length_append,List.length_cons,List.length_nil,oG])
 all_goals omega
theorem Cr {p:Prop}(e:p:=by simp -implicitDefEqProofs (disch:=first|omega| (simp only[go_sem,lA,lD,lT] <;>omega) |decide) only[go_sem,↓reduceIte,Nat.reduceEqDiff,reduceCtorEq];all_goals (exact congrArg (fun z=>some (C.val (.int .i64 z))) (by rw[ti];first| (rw[if_pos (by omega)];rfl) |rw[if_neg (by omega)]))):p:=e
theorem abT {gl:Nat→C}{M:Nat}{pu:Nat→List C→Option C}(hcx:CxOK (ax gl M pu))(n:Int)(m:Nat)(hn: -9223372036854775808≤n∧n≤9223372036854775807∧0< m∧m≤9223372036854775807):FC Tryd.prog gl 19 [.val (.int .i64 n),.val (nI m)] [] (.val (nI (ag n m))) []:=by
 replace hcx:=hcx.reN (M:=13);refine aH (cx:=ax gl 13 pu) (rs:=[.tmp 4]) rfl Tryd.func19 rfl rfl rfl (by simp only[List.length_cons,List.length_nil];decide) (by simp only[go_sem]) ?_;simp only[bj,go_sem];have hy:=True.intro;refine Tr.w hcx [] _ [] rfl rfl rfl ?_ eN;refine aa fun K1 hK1=>?_;refine Tr.w hcx [] _ [] rfl rfl rfl ?_ eN;refine af rfl (fun hc6=>?_) (fun hc6=>?_)
 ·
  refine Tr.v hcx [1000009] _ [] rfl rfl rfl ?_ eN;refine hK1 _ ?_;refine Tr.w hcx [1000012] _ [] rfl rfl rfl ?_ eN;exact Tr.ret Cr
 refine Tr.skip ?_;refine hK1 _ ?_;refine Tr.w hcx [1000012] _ [] rfl rfl rfl ?_ eN;exact Tr.ret Cr
theorem sx {p:Prop}(e:p:=by intro KZ hZ;simp -implicitDefEqProofs (disch:=first|omega| (simp only[go_sem,lA,lD,lT] <;>omega) |decide) only[go_sem,↓reduceIte,Nat.reduceEqDiff,reduceCtorEq,Nat.reduceLT,Nat.reduceBEq,Nat.reduceAdd,h19,Nat.not_lt_zero,hy];with_reducible exact hZ):p:=e
theorem Cs {p:Prop}(e:p:=by simp -implicitDefEqProofs (disch:=first|omega| (simp only[go_sem,lA,lD,lT] <;>omega) |decide) only[go_sem,↓reduceIte,Nat.reduceEqDiff,reduceCtorEq];all_goals (exact congrArg (fun z=>some (C.val (nI z))) (by unfold cu;first|rw[if_pos hc14] |rw[if_neg hc14]))):p:=e
theorem abU {gl:Nat→C}{M:Nat}{pu:Nat→List C→Option C}(hcx:CxOK (ax gl M pu))(h19:∀ (n:Int) (m:Nat),-9223372036854775808≤n∧n≤9223372036854775807∧0< m∧m≤9223372036854775807→pu 19 [.val (.int .i64 n),.val (nI m)] =some (.val (nI (ag n m))))(l:List Int)(i m:Nat)(hl:LI l)(hi:i≤1000000)(hm:0< m∧m≤9223372036854775807):FC Tryd.prog gl 65 [sl iC .no l,.val (nI i),.val (nI m)] [] (.val (nI (cu l i m))) []:=by
 replace hcx:=hcx.reN (M:=21);refine aH (cx:=ax gl 21 pu) (rs:=[.tmp 6]) rfl Tryd.func65 rfl rfl rfl (by simp only[List.length_cons,List.length_nil];decide) (by simp only[go_sem]) ?_;simp only[bj,go_sem];have hy:=True.intro;have hl1:=hl.1;refine Tr.w hcx [] _ [] rfl rfl rfl ?_ sx;refine aa fun K1 hK1=>?_;refine Tr.w hcx [] [some 7,some 8,some 9,some 10,some 11,some 12,some 13,some 14] [] rfl rfl rfl ?_ sx;refine af rfl (fun hc14=>?_) (fun hc14=>?_)
 ·
  refine Tr.w hcx [] _ [] rfl rfl rfl ?_ sx;exact Tr.ret Cs
 have hb1:=hl.2 i (by omega);refine Tr.skip ?_;refine hK1 _ ?_;refine Tr.w hcx [1000020] _ [] rfl rfl rfl ?_ sx;exact Tr.ret Cs
theorem fW {p:Prop}(e:p:=by intro KZ hZ;simp -implicitDefEqProofs (disch:=first|omega| (simp only[go_sem,lA,lD,lT] <;>omega) |decide) only[go_sem,↓reduceIte,Nat.reduceEqDiff,reduceCtorEq,Nat.reduceLT,Nat.reduceBEq,Nat.reduceAdd,Nat.zero_add,Nat.mul_one,Nat.zero_mul,b1,b2,b3,hy];with_reducible exact hZ):p:=e
theorem qz {p:Prop}(e:p:=by simp -implicitDefEqProofs (disch:=first|omega| (simp only[go_sem,lA,lD,lT] <;>omega) |decide) only[go_sem,↓reduceIte,Nat.reduceEqDiff,reduceCtorEq];all_goals (first|exact oH (by rw[Qm b2 b3,Gy b1,List.take_of_length_le (by rw[oG];exact Nat.le_refl _)]) |exact oH (by rw[←Qo (by intro hh;first|exact b2 hh.1|exact b3 hh.2),List.take_length]) |exact oH (by cases w with|nil=>rfl|cons c r=>exact absurd (Nat.succ_pos _) b1))):p:=e
theorem Xt {gl:Nat→C}{M:Nat}{pu:Nat→List C→Option C}(hcx:CxOK (ax gl M pu))(w:List UInt8)(hw:w.length≤1000000):FC Tryd.prog gl 121 [.val (str w)] [] (.val (str (qm w))) []:=by
 replace hcx:=hcx.reN (M:=30);refine aH (cx:=ax gl 30 pu) (rs:=[.tmp 2]) rfl Tryd.func121 rfl rfl rfl (by simp only[List.length_cons,List.length_nil];decide) (by simp only[go_sem]) ?_;simp only[bj,go_sem];have ⟨b1,b2,b3,hy⟩:=jd;refine Tr.w hcx [] _ [] rfl rfl rfl ?_ fW;refine s8 hcx [5] [1000005] _ [] rfl rfl rfl ?_ fW;refine aa fun K1 hK1=>?_;by_cases b1:0< w.length
 ·
  by_cases b2:UInt8.ofNat 97≤gt w 0
  ·
   by_cases b3:gt w 0≤UInt8.ofNat 122
   ·
    refine Tr.w hcx [] [some 6,some 7,some 8,some 9,some 10,some 11,some 12,some 13,some 14,some 15,some 16,some 17,some 18,some 19,some 20] [] rfl rfl rfl ?_ fW;refine aG rfl ?_;refine Tr.v hcx [] _ [] rfl rfl rfl ?_ fW;refine hK1 _ ?_;refine Tr.k [3] ?_;refine Tr.w hcx [1000029] _ [] rfl rfl rfl ?_ fW;exact Tr.ret qz
   refine Tr.w hcx [] [some 6,some 7,some 8,some 9,some 10,some 11,some 12,some 13,some 14,some 15,some 16,some 17,some 18,some 19,some 20] [] rfl rfl rfl ?_ fW;refine aq rfl ?_;refine Tr.skip ?_;refine hK1 _ ?_;refine Tr.w hcx [1000029] _ [] rfl rfl rfl ?_ fW;exact Tr.ret qz
  refine Tr.w hcx [] [some 6,some 7,some 8,some 9,some 10,some 11,some 12,some 13,some 14,some 15,some 16,some 17,some 18,some 19,some 20] [] rfl rfl rfl ?_ fW;refine aq rfl ?_;refine Tr.skip ?_;refine hK1 _ ?_;refine Tr.w hcx [1000029] _ [] rfl rfl rfl ?_ fW;exact Tr.ret qz
 refine Tr.w hcx [] [some 6,some 7,some 8,some 9,some 10,some 11,some 12,some 13,some 14,some 15,some 16,some 17,some 18,some 19,some 20] [] rfl rfl rfl ?_ fW;refine aq rfl ?_;refine Tr.skip ?_;refine hK1 _ ?_;refine Tr.w hcx [1000029] _ [] rfl rfl rfl ?_ fW;exact Tr.ret qz
theorem ed {p:Prop}(e:p:=by intro KZ hZ;simp -implicitDefEqProofs (disch:=first|omega| (simp only[go_sem,lA,lD,lT,oG] <;>omega) |decide) only[go_sem,↓reduceIte,Nat.reduceEqDiff,reduceCtorEq,Nat.reduceLT,Nat.reduceBEq,Nat.reduceAdd,h121,hy];with_reducible exact hZ):p:=e
theorem j9 {p:Prop}(e:p:=by simp -implicitDefEqProofs (disch:=first|omega| (simp only[go_sem,lA,lD,lT,oG] <;>omega) |decide) only[go_sem,↓reduceIte,Nat.reduceEqDiff,reduceCtorEq];all_goals (exact oH (by unfold pm;simp_all))):p:=e
theorem Xu {gl:Nat→C}{M:Nat}{pu:Nat→List C→Option C}(hcx:CxOK (ax gl M pu))(h121:∀w:List UInt8,w.length≤1000000→pu 121 [.val (str w)] =some (.val (str (qm w))))(w:List UInt8)(n:Nat)(hw:w.length≤1000000)(hn:n≤1000000):FC Tryd.prog gl 101 [.val (str w),.val (nI n)] [] (.val (str (pm w n))) []:=by
 replace hcx:=hcx.reN (M:=33);refine aH (cx:=ax gl 33 pu) (rs:=[.tmp 4]) rfl Tryd.func101 rfl rfl rfl (by simp only[List.length_cons,List.length_nil];decide) (by simp only[go_sem]) ?_;simp only[bj,go_sem];have hy:=True.intro;refine Tr.w hcx [] _ [] rfl rfl rfl ?_ ed;refine aa fun K1 hK1=>?_;refine Tr.w hcx [] _ [] rfl rfl rfl ?_ ed;refine Tr.blk ?_;refine Tr.w hcx [1000007] _ [] rfl rfl rfl ?_ ed;refine af rfl (fun hc6=>?_) (fun hc6=>?_)
 ·
  refine Tr.w hcx [1000009] _ [] rfl rfl rfl ?_ ed;exact Tr.ret j9
 refine Tr.w hcx [1000011] _ [] rfl rfl rfl ?_ ed;refine af rfl (fun hc10=>?_) (fun hc10=>?_)
 ·
  refine Tr.w hcx [1000013] _ [] rfl rfl rfl ?_ ed;exact Tr.ret j9
 refine Tr.w hcx [1000015] _ [] rfl rfl rfl ?_ ed;refine af rfl (fun hc14=>?_) (fun hc14=>?_)
 ·
  refine Tr.w hcx [1000017] _ [] rfl rfl rfl ?_ ed;exact Tr.ret j9
 refine Tr.w hcx [1000019] _ [] rfl rfl rfl ?_ ed;refine af rfl (fun hc18=>?_) (fun hc18=>?_)
 ·
  refine Tr.w hcx [1000022] _ [] rfl rfl rfl ?_ ed;exact Tr.ret j9
 refine Tr.w hcx [1000024] _ [] rfl rfl rfl ?_ ed;refine af rfl (fun hc23=>?_) (fun hc23=>?_)
 ·
  refine Tr.w hcx [1000027] _ [] rfl rfl rfl ?_ ed;exact Tr.ret j9
 refine Tr.w hcx [1000029] _ [] rfl rfl rfl ?_ ed;refine af rfl (fun hc28=>?_) (fun hc28=>?_)
 ·
  refine Tr.w hcx [1000031] _ [] rfl rfl rfl ?_ ed;exact Tr.ret j9
 refine Tr.skip ?_;refine hK1 _ ?_;refine Tr.w hcx [1000032] _ [] rfl rfl rfl ?_ ed;exact Tr.ret j9
theorem fp {p:Prop}(e:p:=by intro KZ hZ;simp -implicitDefEqProofs (disch:=first|omega| (simp only[go_sem,lA,lD,lT,hb1,wz] <;>omega) |decide) only[go_sem,↓reduceIte,Nat.reduceEqDiff,reduceCtorEq,Nat.reduceLT,Nat.reduceBEq,Nat.reduceAdd,h65',h101,Gz,hy];with_reducible exact hZ):p:=e
theorem Qq {p:Prop}(e:p:=by simp -implicitDefEqProofs (disch:=first|omega| (simp only[go_sem,lA,lD,lT,hb1,wz] <;>omega) |decide) only[go_sem,↓reduceIte,Nat.reduceEqDiff,reduceCtorEq];all_goals (rfl)):p:=e
theorem abV {gl:Nat→C}{M:Nat}{pu:Nat→List C→Option C}(hcx:CxOK (ax gl M pu))(h65:∀ (l:List Int) (i m:Nat),LI l→i≤1000000∧0< m∧m≤9223372036854775807→pu 65 [sl iC .no l,.val (nI i),.val (nI m)] =some (.val (nI (cu l i m))))(h101:∀ (w:List UInt8) (n:Nat),w.length≤1000000∧n≤1000000→pu 101 [.val (str w),.val (nI n)] =some (.val (str (pm w n))))(l:List Int)(k:Nat)(hl:LI l)(hk:k≤1000):FC Tryd.prog gl 66 [sl iC .no l,.val (nI k)] [] (.val (str (iY l k))) []:=by
 replace hcx:=hcx.reN (M:=41);refine aH (cx:=ax gl 41 pu) (rs:=[.tmp 4]) rfl Tryd.func66 rfl rfl rfl (by simp only[List.length_cons,List.length_nil];decide) (by simp only[go_sem]) ?_;simp only[bj,go_sem];have hy:=True.intro;have h65':=fun i m=>h65 l i m hl;have hb0:=en l k (m:=9) (by decide);have hb1:=True.intro;refine Tr.w hcx [] _ [] rfl rfl rfl ?_ fp;refine Tr.w hcx [1000010] _ [] rfl rfl rfl ?_ fp;refine Tr.w hcx [] _ [] rfl rfl rfl ?_ fp;refine aa fun K1 hK1=>?_;refine Tr.w hcx [] _ [] rfl rfl rfl ?_ fp;refine Tr.k [0,1,5,6,7] ?_;refine Tr.blk ?_;refine ao (α:=Nat) (fun a=>[(0,?v0_1),(1,?v1_1),(5,?v5_1),(6,.val (str (eE l k a))),(7,.val (nI a))]) (fun a=>?h_1) (fun a=>a≤1+cu l k 9) (fun a=>1+cu l k 9 - a) (0) ?_ ?le_1 ?hh_1 ?bd_1
 case hh_1=>exact rfl
 case le_1=>exact LT
 . omega
 rintro i hi;have hb1:=E0 l k i;have hb2:=en l (k+1+i) (m:=108) (by decide);have hb3:=Qp (cu l (k+1+i) 108 % 9);have hb4:=GA (gt wlist (cu l (k+1+i) 108 % 9)) (cu l (k+1+i) 108 / 9);have hb5:=Nat.mod_lt (cu l (k+1+i) 108) (show 9>0 by decide);refine aa fun K2 hK2=>?_;refine Tr.w hcx [] _ [] rfl rfl rfl ?_ fp;refine af rfl (fun hc16=>?_) (fun hc16=>?_)
 ·
  refine Tr.skip ?_;refine hK2 _ ?_;refine aa fun K3 hK3=>?_;refine Tr.blk ?_;refine Tr.w hcx [1000024] _ [] rfl rfl rfl ?_ fp;refine Tr.k [0,1,5,6,7,8] ?_;refine Tr.w hcx [1000032] _ [] rfl rfl rfl ?_ fp;refine aa fun K4 hK4=>?_;refine Tr.w hcx [] _ [] rfl rfl rfl ?_ fp;refine af rfl (fun hc34=>?_) (fun hc34=>?_)
  ·
   refine Tr.v hcx [1000036] _ [] rfl rfl rfl ?_ fp;refine hK4 _ ?_;refine Tr.v hcx [1000039] _ [] rfl rfl rfl ?_ fp;refine hK3 _ ?_;refine Tr.k [0,1,5,6,7] ?_;refine Tr.v hcx [1000018] _ [] rfl rfl rfl ?_ fp;refine ⟨i+1,⟨by omega,O1⟩,?_,rfl⟩
   (simp only[aX,aK,↓aT,↓reduceIte,Nat.reduceEqDiff,aE,aM,aF,aN,aO,and_true,true_and];all_goals (repeat' first|exact CLe.refl _|exact True.intro| (refine ay ?_;first|rfl| (simp only[List.take_zero];done)) |exact aV (by omega) |exact aB (by omega) |exact aJ (by omega) |exact aP (by omega) |with_reducible apply And.intro))
   all_goals first| (rw[zb l k i hc34];exact CLe.refl _) | (rw[zd l k i hc34];exact CLe.refl _)
  refine Tr.skip ?_;refine hK4 _ ?_;refine Tr.v hcx [1000039] _ [] rfl rfl rfl ?_ fp;refine hK3 _ ?_;refine Tr.v hcx [1000018] _ [] rfl rfl rfl ?_ fp;refine ⟨i+1,⟨by omega,O1⟩,?_,rfl⟩
  (simp only[aX,aK,↓aT,↓reduceIte,Nat.reduceEqDiff,aE,aM,aF,aN,aO,and_true,true_and];all_goals (repeat' first|exact CLe.refl _|exact True.intro| (refine ay ?_;first|rfl| (simp only[List.take_zero];done)) |exact aV (by omega) |exact aB (by omega) |exact aJ (by omega) |exact aP (by omega) |with_reducible apply And.intro))
  all_goals first| (rw[zb l k i hc34];exact CLe.refl _) | (rw[zd l k i hc34];exact CLe.refl _)
 obtain rfl:i=1+cu l k 9:=by omega
 refine Tr.exit ?_;refine hK1 _ ?_;refine Tr.w hcx [1000040] _ [] rfl rfl rfl ?_ fp;exact Tr.ret Qq
def kc:List (BitVec 32):=[0x428a2f98,0x71374491,0xb5c0fbcf,0xe9b5dba5,0x3956c25b,0x59f111f1,0x923f82a4,0xab1c5ed5,0xd807aa98,0x12835b01,0x243185be,0x550c7dc3,0x72be5d74,0x80deb1fe,0x9bdc06a7,0xc19bf174,0xe49b69c1,0xefbe4786,0x0fc19dc6,0x240ca1cc,0x2de92c6f,0x4a7484aa,0x5cb0a9dc,0x76f988da,0x983e5152,0xa831c66d,0xb00327c8,0xbf597fc7,0xc6e00bf3,0xd5a79147,0x06ca6351,0x14292967,0x27b70a85,0x2e1b2138,0x4d2c6dfc,0x53380d13,0x650a7354,0x766a0abb,0x81c2c92e,0x92722c85,0xa2bfe8a1,0xa81a664b,0xc24b8b70,0xc76c51a3,0xd192e819,0xd6990624,0xf40e3585,0x106aa070,0x19a4c116,0x1e376c08,0x2748774c,0x34b0bcb5,0x391c0cb3,0x4ed8aa4a,0x5b9cca4f,0x682e6ff3,0x748f82ee,0x78a5636f,0x84c87814,0x8cc70208,0x90befffa,0xa4506ceb,0xbef9a3f7,0xc67178f2]
def nl (x:BitVec 32)(k:Nat):BitVec 32:=x<<< k|||x>>> (32 - k)
def rr (x:BitVec 32)(n:Nat):BitVec 32:=x>>>n|||x<<< (32 - n)
theorem kb (x:BitVec 32)(n m:Nat)(h:n=32 - m∧0< m∧m< 32):nl x n=rr x m:=by
 unfold nl rr;obtain ⟨h1,h2,h3⟩:=h;subst h1;rw[BitVec.or_comm];congr 2;omega
theorem CD (x:BitVec 32):nl x 25=rr x 7:=kb x 25 7 (by omega)
theorem CE (x:BitVec 32):nl x 14=rr x 18:=kb x 14 18 (by omega)
theorem CF (x:BitVec 32):nl x 15=rr x 17:=kb x 15 17 (by omega)
theorem CG (x:BitVec 32):nl x 13=rr x 19:=kb x 13 19 (by omega)
def bw (b:UInt8):BitVec 32:=b.toBitVec.setWidth 32
def AW (b:List UInt8)(t:Nat):BitVec 32:=bw (gt b (4*t)) <<< 24|||bw (gt b (4*t+1)) <<< 16|||bw (gt b (4*t+2)) <<< 8|||bw (gt b (4*t+3))
def bP (b:List UInt8):Nat→List (BitVec 32)
 |0=>[]
 |t+1=>bP b t++[if t< 16 then AW b t else
   gt (bP b t) (t - 16)+(rr (gt (bP b t) (t - 15)) 7 ^^^ rr (gt (bP b t) (t - 15)) 18 ^^^ gt (bP b t) (t - 15) >>>3)+gt (bP b t) (t - 7)+
    (rr (gt (bP b t) (t - 2)) 17 ^^^ rr (gt (bP b t) (t - 2)) 19 ^^^ gt (bP b t) (t - 2) >>>10)]
theorem dZ (b:List UInt8):∀t,(bP b t).length=t
 |0=>rfl
 |t+1=>by simp[bP,dZ b t]
def nn (l:List UInt8):BitVec 32:=l.foldl (fun a x=>a<<< 8|||bw x) 0
theorem CH (l:List UInt8)(x:UInt8):nn (l++[x]) =nn l<<< 8|||bw x:=by simp[nn]
theorem CI (b:List UInt8)(t:Nat)(h:4*t+4≤b.length):nn ((b.drop (4*t)).take 4) =AW b t:=by
 have e: (b.drop (4*t)).take 4= [gt b (4*t),gt b (4*t+1),gt b (4*t+2),gt b (4*t+3)]:=by
  apply List.ext_getElem?;intro i;rw[List.getElem?_take,List.getElem?_drop];rcases i with _|_|_|_|i<;>simp[gt,List.getD] <;>first| (rw[List.getElem?_eq_getElem (by omega)];simp) |omega
 rw[e];simp only[nn,List.foldl_cons,List.foldl_nil,AW];have z:∀x:BitVec 32,(0:BitVec 32) <<< 8|||x=x:=fun x=>by simp
 rw[z];simp only[BitVec.shiftLeft_or_distrib,←BitVec.shiftLeft_add]
theorem GI (b:List UInt8)(t:Nat)(h:t< 64): [some (cl wC (List.replicate 64 0)),some (cl wC (bP b t++List.replicate (64 - t) 0))] = [some (cl wC (List.replicate 64 0)),some (cl wC (bP b t++nn (((b.drop (4*t)).take 4).take 0)::List.replicate (63 - t) 0))]:=by
 have e:64 - t= (63 - t)+1:=by omega
 rw[e,List.replicate_succ];rfl
theorem CJ (b:List UInt8)(t j:Nat)(h:j< ((b.drop (4*t)).take 4).length)(h2:t< 64): [some (cl wC (List.replicate 64 0)),some (cl wC (bP b t++(nn (((b.drop (4*t)).take 4).take j) <<< 8|||bw (gt ((b.drop (4*t)).take 4) j))::List.replicate (63 - t) 0))] = [some (cl wC (List.replicate 64 0)),some (cl wC (bP b t++nn (((b.drop (4*t)).take 4).take (j+1))::List.replicate (63 - t) 0))]:=by
 rw[fq _ _ h,CH]
theorem rc (b:List UInt8)(t:Nat)(hb:b.length=64)(h:t< 16): [some (cl wC (List.replicate 64 0)),some (cl wC (bP b t++nn (((b.drop (4*t)).take 4).take 4)::List.replicate (63 - t) 0))] = [some (cl wC (List.replicate 64 0)),some (cl wC (bP b (t+1)++List.replicate (64 - (t+1)) 0))]:=by
 have e:64 - (t+1) =63 - t:=by omega
 rw[e,List.take_take,Nat.min_self,CI b t (by omega)];simp only[bP,h,if_true,List.append_assoc,List.cons_append,List.nil_append]
theorem re (b:List UInt8)(t:Nat)(h:¬t< 16):
 [some (cl wC (List.replicate 64 0)),some (cl wC (bP b t++(gt (bP b t) (t - 16)+(rr (gt (bP b t) (t - 15)) 7 ^^^ rr (gt (bP b t) (t - 15)) 18 ^^^ gt (bP b t) (t - 15) >>>3)+gt (bP b t) (t - 7)+
   (rr (gt (bP b t) (t - 2)) 17 ^^^ rr (gt (bP b t) (t - 2)) 19 ^^^ gt (bP b t) (t - 2) >>>10))::List.replicate (64 - 1 - t) 0))] = [some (cl wC (List.replicate 64 0)),some (cl wC (bP b (t+1)++List.replicate (64 - (t+1)) 0))]:=by
 have e:64 - (t+1) =64 - 1 - t:=by omega
 rw[e];simp only[bP,h,if_false,List.append_assoc,List.cons_append,List.nil_append]
theorem pM:kc.length=64:=id rfl
structure S8 where
 (a b c d e f g h:BitVec 32)
def rnd (k w:BitVec 32)(s:S8):S8:=
 ⟨(s.h+(rr s.e 6 ^^^ rr s.e 11 ^^^ rr s.e 25)+(s.e &&& s.f ^^^ ~~~s.e &&& s.g)+k+w)+((rr s.a 2 ^^^ rr s.a 13 ^^^ rr s.a 22)+(s.a &&& s.b ^^^ s.a &&& s.c ^^^ s.b &&& s.c)),s.a,s.b,s.c,
   s.d+(s.h+(rr s.e 6 ^^^ rr s.e 11 ^^^ rr s.e 25)+(s.e &&& s.f ^^^ ~~~s.e &&& s.g)+k+w),s.e,s.f,s.g⟩
def gK (w:List (BitVec 32))(s:S8):Nat→S8
 |0=>s
 |t+1=>rnd (gt kc t) (gt w t) (gK w s t)
def S8.l (s:S8):List (BitVec 32):=[s.a,s.b,s.c,s.d,s.e,s.f,s.g,s.h]
def S8.add (s r:S8):S8:=⟨s.a+r.a,s.b+r.b,s.c+r.c,s.d+r.d,s.e+r.e,s.f+r.f,s.g+r.g,s.h+r.h⟩
def comp (s:S8)(b:List UInt8):S8:=s.add (gK (bP b 64) s 64)
def QG (s r:S8)(i:Nat):List (BitVec 32):=[if 0< i then s.a+r.a else s.a,if 1< i then s.b+r.b else s.b,if 2< i then s.c+r.c else s.c,if 3< i then s.d+r.d else s.d,
 if 0< i then s.e+r.e else s.e,if 1< i then s.f+r.f else s.f,if 2< i then s.g+r.g else s.g,if 3< i then s.h+r.h else s.h]
theorem l4 (s r:S8)(i:Nat): (QG s r i).length=8:=id rfl
theorem L5 (b o:Nat):an Tryd.prog 128 (.bp b o) 0=some (vp (.bp b (o+0))):=by
 rw[Bv,v7,Bw (h:=rfl)];show DQ (td Tryd.prog 124) b (o+0) =_;rw[Kt];rfl
theorem L6 (b o:Nat):an Tryd.prog 128 (.bp b o) 1=some (vp (.bp b (o+8))):=by
 rw[Bv,v7,Bw (h:=rfl)];show DQ (td Tryd.prog 125) b (o+8) =_;rw[Ku];rfl
theorem L7 (b o:Nat):an Tryd.prog 128 (.bp b o) 2=some (vp (.bp b (o+72))):=by
 rw[Bv,v7,Bw (h:=rfl)];show DQ (td Tryd.prog 126) b (o+72) =_;rw[Kv];rfl
theorem ef (s:S8):s.l.length=8:=id rfl
def Z8:List (BitVec 32):=[0,0,0,0,0,0,0,0]
theorem wH:Z8.length=8:=id rfl
structure Str where
 (s:S8) (blk:List UInt8) (n:Nat)
def Str.cells (F:Str):List C:=cl wC F.s.l++(cl bC F.blk++[.val (nU F.n)])
def IV:S8:=⟨0x6a09e667,0xbb67ae85,0x3c6ef372,0xa54ff53a,0x510e527f,0x9b05688c,0x1f83d9ab,0x5be0cd19⟩
def F0:Str:=⟨IV,List.replicate 64 0,0⟩
def push (F:Str)(x:UInt8):Str:=⟨if F.n % 64=63 then comp F.s (F.blk.set (F.n % 64) x) else F.s,F.blk.set (F.n % 64) x,F.n+1⟩
def d9 (F:Str)(m:List UInt8):Str:=m.foldl push F
theorem wJ (F:Str)(m t:List UInt8):d9 F (m++t) =d9 (d9 F m) t:=by simp[d9]
theorem sA (m:List UInt8):∀F:Str,(d9 F m).n=F.n+m.length:=by
 induction m with
 |nil=>intro F;rfl
 |cons x m ih=>intro F;show (d9 (push F x) m).n=_;rw[ih];simp[push];omega
theorem ke (m:List UInt8):∀F:Str,(d9 F m).blk.length=F.blk.length:=by
 induction m with
 |nil=>intro F;rfl
 |cons x m ih=>intro F;show (d9 (push F x) m).blk.length=_;rw[ih];simp[push]
theorem sB:∀ (l:List UInt8)(G:Str),G.blk.length=64→G.n % 64+l.length≤64→l≠[]→
 d9 G l= ⟨if G.n % 64+l.length=64 then comp G.s (G.blk.take (G.n % 64)++l++G.blk.drop (G.n % 64+l.length)) else G.s,G.blk.take (G.n % 64)++l++G.blk.drop (G.n % 64+l.length),G.n+l.length⟩
 | [],G,_,_,h=>absurd rfl h
 | [x],G,hb,hl,_=>by
   have e:G.blk.set (G.n % 64) x=G.blk.take (G.n % 64)++[x]++G.blk.drop (G.n % 64+1):=by
    rw[List.set_eq_take_append_cons_drop,if_pos (by omega)];simp
   show push G x=_;unfold push;rw[e];simp only[List.length_singleton];have: (G.n % 64=63) = (G.n % 64+1=64):=by simp
   simp only[this]
 |x::y::l,G,hb,hl,_=>by
  simp only[List.length_cons] at hl;have hne:G.n % 64≠63:=by omega
  show d9 (push G x) (y::l) =_;have hp:push G x= ⟨G.s,G.blk.set (G.n % 64) x,G.n+1⟩:=by unfold push;rw[if_neg hne]
  have hm: (G.n+1) % 64=G.n % 64+1:=by omega
  rw[hp,sB (y::l) _ (by simpa using hb) (by simp only[hm,List.length_cons];omega) (by simp)];simp only[hm,List.length_cons];have e1: (G.blk.set (G.n % 64) x).take (G.n % 64+1) =G.blk.take (G.n % 64)++[x]:=by
   rw[List.set_eq_take_append_cons_drop,if_pos (by omega)];rw[List.take_append,List.length_take,Nat.min_eq_left (by omega),List.take_of_length_le (by simp;omega)];simp
  have e2: (G.blk.set (G.n % 64) x).drop (G.n % 64+1+(l.length+1)) =G.blk.drop (G.n % 64+(l.length+1+1)):=by
   rw[List.drop_set_of_lt (by omega)];congr 1;omega
  rw[e1,e2];have e3: (G.n % 64+1+(l.length+1) =64) = (G.n % 64+(l.length+1+1) =64):=by rw[show G.n % 64+1+(l.length+1) =G.n % 64+(l.length+1+1) by omega]
  simp only[e3,List.append_assoc,List.cons_append,List.nil_append];have e4:G.n+1+(l.length+1) =G.n+(l.length+1+1):=by omega
  rw[e4]
def oJ (n:Nat):Nat:=(119 - n % 64) % 64
def pN (n:Nat)(k:Nat):List UInt8:=(List.range k).map fun i=>UInt8.ofNat (n>>> (56 - 8*i))
def QH (n:Nat):List UInt8:=128::List.replicate (oJ n) 0++pN (8*n) 8
def QI (s:S8)(i:Nat):UInt8:=⟨(gt s.l (i / 4) >>> (24 - 8*(i % 4))).setWidth 8⟩
def sD (s:S8)(n:Nat):List UInt8:=(List.range n).map (QI s)
theorem lH (s:S8)(n:Nat): (sD s n).length=n:=by simp[sD]
def pO (F:Str):List UInt8:=sD (d9 F (QH F.n)).s 32
def ve (m:List UInt8):List UInt8:=pO (d9 F0 m)
theorem L8 (m:List UInt8): (ve m).length=32:=lH _ _
theorem CK (n k:Nat):pN n (k+1) =pN n k++[UInt8.ofNat (n>>> (56 - 8*k))]:=by simp[pN,List.range_succ]
theorem rH (n k:Nat): (pN n k).length=k:=by simp[pN]
theorem GJ (s:S8)(k:Nat):sD s (k+1) =sD s k++[QI s k]:=by simp[sD,List.range_succ]
theorem uj (F:Str): (⟨F.s,F.blk,F.n⟩:Str) =F:=rfl
theorem wK:F0.blk.length=64:=id rfl
theorem GK:F0.n=0:=id rfl
theorem wL (F G:Str)(t L:List UInt8)(c:Nat)(hG:d9 F (t.take c) =G)(hL:t.drop c=L)(hb:G.blk.length=64)(hne:L≠[]):
 d9 F (t.take (c+min L.length (64 - G.n % 64))) = ⟨if G.n % 64+min L.length (64 - G.n % 64) =64 then comp G.s (G.blk.take (G.n % 64)++L.take (64 - G.n % 64)++G.blk.drop (G.n % 64+(L.take (64 - G.n % 64)).length)) else G.s,
  G.blk.take (G.n % 64)++L.take (64 - G.n % 64)++G.blk.drop (G.n % 64+(L.take (64 - G.n % 64)).length),G.n+min L.length (64 - G.n % 64)⟩:=by
 have hlen: (L.take (64 - G.n % 64)).length=min L.length (64 - G.n % 64):=by rw[List.length_take,Nat.min_comm]
 have e:d9 F (t.take (c+min L.length (64 - G.n % 64))) =d9 G (L.take (64 - G.n % 64)):=by
  rw[List.take_add,wJ,hG,hL];congr 1
  rw[List.take_eq_take_iff];omega
 rw[e,sB _ G hb (by rw[hlen];omega) (fun h=>by
  have h2:=congrArg List.length h;have h3:0< L.length:=List.length_pos_iff.2 hne;rw[hlen] at h2;simp only[List.length_nil] at h2;omega)]
 simp only[hlen]
theorem GL (S:S8)(i:Nat)(h:i< 32):sD S i++QI S i::List.replicate (32 - 1 - i) 0=sD S (i+1)++List.replicate (32 - (i+1)) 0:=by
 rw[GJ,show 32 - (i+1) =32 - 1 - i by omega];simp
theorem px {α:Type}(l:List α)(k:Nat): (l.drop k).take (l.length - k) =l.drop k:=List.take_of_length_le (by simp)
theorem ab9 (op:BinOp)(a b:List UInt8)(ha:a.length=16)(hb:b.length=16):aw Tryd.prog op 80 (.agg (cl bC a)) (.agg (cl bC b)) =s7 op (decide (a=b)):=N1 Tryd.prog Qv Qs (by kernel_rfl) op a b ha hb
theorem CL (a:List (BitVec 32))(l:List UInt8)(v:Value):aR (some (cl wC a++(cl bC l++[C.val v]))) =some (cl wC a++(cl bC l++[C.val v])):=rU wC a _ (rU bC l _ rfl)
attribute [go_sem] CL
attribute [go_sem] L5 L6 L7
def keyOf (key:List UInt8):List UInt8:=if key.length>64 then ve key else key
def gZ (tag:Int)(parts:List (List UInt8)):List UInt8:=UInt8.ofNat (tag % 256).toNat::parts.flatMap wb
theorem wE (tag:Int)(parts:List (List UInt8))(i:Nat)(h:i< parts.length):gZ tag (parts.take (i+1)) =gZ tag (parts.take i)++wb (gt parts i):=by
 rw[fq _ _ h];simp[gZ]
theorem QB (tag:Int)(parts:List (List UInt8))(i:Nat): (gZ tag (parts.take i)).length≤(gZ tag parts).length:=by
 have h:=List.take_append_drop i parts;have e:gZ tag parts=gZ tag (parts.take i)++(parts.drop i).flatMap wb:=by
  have e2:parts.flatMap wb= (parts.take i++parts.drop i).flatMap wb:=by rw[h]
  unfold gZ;rw[e2,List.flatMap_append];rfl
 rw[e];simp
def few (l:List (List UInt8)):Bool:=decide (l.length≤12) && l.all fun s=>decide (s.length≤400)
theorem lY (F:Str): (pO F).length=32:=lH _ _
theorem y4 (tag:Int)(parts:List (List UInt8))(h: (gZ tag parts).length< 1099511627776)(i:Nat)(hi:i< parts.length):
 (gZ tag (parts.take i)).length+(wb (gt parts i)).length< 1099511627776∧(gt parts i).length< 1099511627776:=by
 have h1:=QB tag parts (i+1);rw[wE tag parts i hi,List.length_append] at h1;have h2: (gt parts i).length≤(wb (gt parts i)).length:=by simp[wb]
 omega
theorem Cz (tag:Int)(parts:List (List UInt8))(h: (gZ tag parts).length< 1099511627776):parts.length< 1099511627776:=by
 have:∀l:List (List UInt8),l.length≤(l.flatMap wb).length:=by
  intro l
  induction l with
  |nil=>simp
  |cons a l ih=>have:=Qr a;simp at ih ⊢;omega
 have:=this parts;unfold gZ at h;simp only[List.length_cons] at h;omega
end Go.Sx
