/-
   And what follows.
-/
import Derived.Test.YtcpdlhgkdogdjaaDoorPal
set_option linter.unusedSimpArgs false
set_option linter.unusedVariables false
namespace Go.Sx
open Go.RowKit Go.Proofs
set_option maxRecDepth 100000
set_option maxHeartbeats 8000000
def eH (s:List UInt8)(i:Nat):Nat:=i+1+ir (kd (gt s i)) (s.drop (i+1))
theorem qT (s:List UInt8)(i:Nat)(h:i< s.length):i< eH s i∧eH s i≤s.length:=by
 unfold eH
 have:=BG (kd (gt s i)) (s.drop (i+1))
 rw[List.length_drop] at this
 omega
theorem Lz {s:List UInt8}{k j:Nat}(hk:k< 2)(h:j< s.length)(he:kd (gt s j) =k):j+1+ir k (s.drop (j+1)) =j+ir k (s.drop j):=by
 have e:s[j] =gt s j:=by simp[gt,List.getD,List.getElem?_eq_getElem h]
 rw[List.drop_eq_getElem_cons h,e]
 show _=j+(if k< 2∧kd (gt s j) =k then _ else 0)
 rw[if_pos ⟨hk,he⟩];omega
theorem C4 {s:List UInt8}{k j:Nat}(h:¬ (k< 2∧j< s.length∧kd (gt s j) =k)):ir k (s.drop j) =0:=by
 by_cases hj:j< s.length
 . have e:s[j] =gt s j:=by simp[gt,List.getD,List.getElem?_eq_getElem hj]
   rw[List.drop_eq_getElem_cons hj,e]
   show (if k< 2∧kd (gt s j) =k then _ else 0) =0
   exact if_neg (fun q=>h ⟨q.1,hj,q.2⟩)
 . rw[List.drop_of_length_le (by omega)];rfl
theorem LA {s:List UInt8}{i:Nat}(h:i< s.length)(hc:gt s i≠32):d6 i none (s.drop i) = ⟨i,eH s i,kd (gt s i)⟩::d6 (eH s i) none (s.drop (eH s i)):=by
 have e:s[i] =gt s i:=by simp[gt,List.getD,List.getElem?_eq_getElem h]
 rw[List.drop_eq_getElem_cons h,e,Kf _ _ _ hc,List.drop_drop];rfl
theorem LB {s:List UInt8}{i:Nat}(h:i< s.length)(hc:gt s i=32):d6 i none (s.drop i) =d6 (i+1) none (s.drop (i+1)):=by
 have e:s[i] =gt s i:=by simp[gt,List.getD,List.getElem?_eq_getElem h]
 rw[List.drop_eq_getElem_cons h,e,hc,BH]
theorem GA {s:List UInt8}{i:Nat}{out:List Tok}(h:i< s.length)(hl:out.length≤i)(hr:out++d6 i none (s.drop i) =dO s):
 (if gt s i=32 then (i+1,out) else (eH s i,out++[⟨i,eH s i,kd (gt s i)⟩])).1≤s.length∧(if gt s i=32 then (i+1,out) else (eH s i,out++[⟨i,eH s i,kd (gt s i)⟩])).2.length≤(if gt s i=32 then (i+1,out) else (eH s i,out++[⟨i,eH s i,kd (gt s i)⟩])).1∧
 (if gt s i=32 then (i+1,out) else (eH s i,out++[⟨i,eH s i,kd (gt s i)⟩])).2++d6 (if gt s i=32 then (i+1,out) else (eH s i,out++[⟨i,eH s i,kd (gt s i)⟩])).1 none (s.drop (if gt s i=32 then (i+1,out) else (eH s i,out++[⟨i,eH s i,kd (gt s i)⟩])).1) =dO s:=by
 split
 . rename_i hb
   exact ⟨h,Nat.le_succ_of_le hl,by rw[←LB h hb];exact hr⟩
 . rename_i hb
   have:=qT s i h
   refine ⟨this.2,?_,?_⟩
   . simp only[List.length_append,List.length_singleton];omega
   . rw[List.append_assoc,List.singleton_append,←LA h hb];exact hr
theorem zN {s:List UInt8}{i j:Nat}(h2:kd (gt s i) < 2)(h3:j< s.length)(h:kd (gt s j) =kd (gt s i))(hr:j+ir (kd (gt s i)) (s.drop j) =eH s i):j+1+ir (kd (gt s i)) (s.drop (j+1)) =eH s i:=by rw[Lz h2 h3 h];exact hr
theorem aT {p:Prop}(e:p:=by intro KZ hZ;simp -implicitDefEqProofs (disch:=first|omega| (simp only[go_sem,lA,lD,lT] <;>omega) |decide) only[go_sem,↓reduceIte,Nat.reduceEqDiff,reduceCtorEq,Nat.reduceLT,Nat.reduceBEq,Nat.reduceAdd,a1,a2,a3,a4,a5,a6,hy];with_reducible exact hZ):p:=e
theorem dn {p:Prop}(e:p:=by simp -implicitDefEqProofs (disch:=first|omega| (simp only[go_sem,lA,lD,lT] <;>omega) |decide) only[go_sem,↓reduceIte,Nat.reduceEqDiff,reduceCtorEq];all_goals (exact congrArg (fun z=>some (C.val (nI z))) (by unfold kd;((all_goals (try simp only[UInt8.le_iff_toNat_le,←UInt8.toNat_inj,UInt8.reduceToNat,UInt8.reduceOfNat] at a1));(all_goals (try simp only[UInt8.le_iff_toNat_le,←UInt8.toNat_inj,UInt8.reduceToNat,UInt8.reduceOfNat] at a2));(all_goals (try simp only[UInt8.le_iff_toNat_le,←UInt8.toNat_inj,UInt8.reduceToNat,UInt8.reduceOfNat] at a3));(all_goals (try simp only[UInt8.le_iff_toNat_le,←UInt8.toNat_inj,UInt8.reduceToNat,UInt8.reduceOfNat] at a4));(all_goals (try simp only[UInt8.le_iff_toNat_le,←UInt8.toNat_inj,UInt8.reduceToNat,UInt8.reduceOfNat] at a5));(all_goals (try simp only[UInt8.le_iff_toNat_le,←UInt8.toNat_inj,UInt8.reduceToNat,UInt8.reduceOfNat] at a6));(all_goals (try simp only[UInt8.le_iff_toNat_le,←UInt8.toNat_inj,UInt8.reduceToNat,UInt8.reduceOfNat] at hc25));simp only[UInt8.le_iff_toNat_le,←UInt8.toNat_inj,UInt8.reduceToNat,UInt8.reduceOfNat];(repeat' split);(all_goals first|rfl|omega))))):p:=e
theorem Rw {gl:Nat→C}{M:Nat}{pu:Nat→List C→Option C}(hcx:CxOK (aD gl M pu))(c:UInt8):FC Tryd.prog gl 100 [.val (w8 c)] [] (.val (nI (kd c))) []:=by
 replace hcx:=hcx.reN (M:=28)
 refine bI (cx:=aD gl 28 pu) (rs:=[.tmp 2]) rfl Tryd.func100 rfl rfl rfl (by simp only[List.length_cons,List.length_nil];decide) (by simp only[go_sem]) ?_
 simp only[cZ,go_sem]
 have a1:=True.intro
 have a2:=True.intro
 have a3:=True.intro
 have a4:=True.intro
 have a5:=True.intro
 have a6:=True.intro
 have hy:=True.intro
 refine Tr.w hcx [] _ [] rfl rfl rfl ?_ aT
 refine ae fun K1 hK1=>?_
 refine am ?_
 by_cases a1:UInt8.ofNat 97≤c
 ·
  by_cases a2:c≤UInt8.ofNat 122
  ·
   refine Tr.w hcx [1000017] [some 4,some 5,some 6,some 7,some 8,some 9,some 10,some 11,some 12,some 13,some 14,some 15,some 16,some 17,some 3] [] rfl rfl rfl ?_ aT
   refine bn rfl ?_
   refine Tr.w hcx [] _ [] rfl rfl rfl ?_ aT
   exact Tr.ret dn
  by_cases a3:UInt8.ofNat 65≤c
  ·
   by_cases a4:c≤UInt8.ofNat 90
   ·
    refine Tr.w hcx [1000017] [some 4,some 5,some 6,some 7,some 8,some 9,some 10,some 11,some 12,some 13,some 14,some 15,some 16,some 17,some 3] [] rfl rfl rfl ?_ aT
    refine bn rfl ?_
    refine Tr.w hcx [] _ [] rfl rfl rfl ?_ aT
    exact Tr.ret dn
   refine Tr.w hcx [1000017] [some 4,some 5,some 6,some 7,some 8,some 9,some 10,some 11,some 12,some 13,some 14,some 15,some 16,some 17,some 3] [] rfl rfl rfl ?_ aT
   refine aO rfl ?_
   by_cases a5:UInt8.ofNat 48≤c
   ·
    by_cases a6:c≤UInt8.ofNat 57
    ·
     refine Tr.w hcx [1000024] [some 19,some 20,some 21,some 22,some 23,some 24,some 18] [] rfl rfl rfl ?_ aT
     refine bn rfl ?_
     refine Tr.w hcx [] _ [] rfl rfl rfl ?_ aT
     exact Tr.ret dn
    refine Tr.w hcx [1000024] [some 19,some 20,some 21,some 22,some 23,some 24,some 18] [] rfl rfl rfl ?_ aT
    refine aO rfl ?_
    refine Tr.w hcx [1000027] _ [] rfl rfl rfl ?_ aT
    refine Tr.k [25] ?_
    refine aw rfl (fun hc25=>?_) (fun hc25=>?_)
    ·
     refine Tr.w hcx [] _ [] rfl rfl rfl ?_ aT
     exact Tr.ret dn
    refine Tr.skip ?_
    refine hK1 _ ?_
    refine Tr.w hcx [] _ [] rfl rfl rfl ?_ aT
    exact Tr.ret dn
   refine Tr.w hcx [1000024] [some 19,some 20,some 21,some 22,some 23,some 24,some 18] [] rfl rfl rfl ?_ aT
   refine aO rfl ?_
   refine Tr.w hcx [1000027] _ [] rfl rfl rfl ?_ aT
   refine Tr.k [25] ?_
   refine aw rfl (fun hc25=>?_) (fun hc25=>?_)
   ·
    refine Tr.w hcx [] _ [] rfl rfl rfl ?_ aT
    exact Tr.ret dn
   refine Tr.skip ?_
   refine hK1 _ ?_
   refine Tr.w hcx [] _ [] rfl rfl rfl ?_ aT
   exact Tr.ret dn
  refine Tr.w hcx [1000017] [some 4,some 5,some 6,some 7,some 8,some 9,some 10,some 11,some 12,some 13,some 14,some 15,some 16,some 17,some 3] [] rfl rfl rfl ?_ aT
  refine aO rfl ?_
  by_cases a5:UInt8.ofNat 48≤c
  ·
   by_cases a6:c≤UInt8.ofNat 57
   ·
    refine Tr.w hcx [1000024] [some 19,some 20,some 21,some 22,some 23,some 24,some 18] [] rfl rfl rfl ?_ aT
    refine bn rfl ?_
    refine Tr.w hcx [] _ [] rfl rfl rfl ?_ aT
    exact Tr.ret dn
   refine Tr.w hcx [1000024] [some 19,some 20,some 21,some 22,some 23,some 24,some 18] [] rfl rfl rfl ?_ aT
   refine aO rfl ?_
   refine Tr.w hcx [1000027] _ [] rfl rfl rfl ?_ aT
   refine Tr.k [25] ?_
   refine aw rfl (fun hc25=>?_) (fun hc25=>?_)
   ·
    refine Tr.w hcx [] _ [] rfl rfl rfl ?_ aT
    exact Tr.ret dn
   refine Tr.skip ?_
   refine hK1 _ ?_
   refine Tr.w hcx [] _ [] rfl rfl rfl ?_ aT
   exact Tr.ret dn
  refine Tr.w hcx [1000024] [some 19,some 20,some 21,some 22,some 23,some 24,some 18] [] rfl rfl rfl ?_ aT
  refine aO rfl ?_
  refine Tr.w hcx [1000027] _ [] rfl rfl rfl ?_ aT
  refine Tr.k [25] ?_
  refine aw rfl (fun hc25=>?_) (fun hc25=>?_)
  ·
   refine Tr.w hcx [] _ [] rfl rfl rfl ?_ aT
   exact Tr.ret dn
  refine Tr.skip ?_
  refine hK1 _ ?_
  refine Tr.w hcx [] _ [] rfl rfl rfl ?_ aT
  exact Tr.ret dn
 by_cases a3:UInt8.ofNat 65≤c
 ·
  by_cases a4:c≤UInt8.ofNat 90
  ·
   refine Tr.w hcx [1000017] [some 4,some 5,some 6,some 7,some 8,some 9,some 10,some 11,some 12,some 13,some 14,some 15,some 16,some 17,some 3] [] rfl rfl rfl ?_ aT
   refine bn rfl ?_
   refine Tr.w hcx [] _ [] rfl rfl rfl ?_ aT
   exact Tr.ret dn
  refine Tr.w hcx [1000017] [some 4,some 5,some 6,some 7,some 8,some 9,some 10,some 11,some 12,some 13,some 14,some 15,some 16,some 17,some 3] [] rfl rfl rfl ?_ aT
  refine aO rfl ?_
  by_cases a5:UInt8.ofNat 48≤c
  ·
   by_cases a6:c≤UInt8.ofNat 57
   ·
    refine Tr.w hcx [1000024] [some 19,some 20,some 21,some 22,some 23,some 24,some 18] [] rfl rfl rfl ?_ aT
    refine bn rfl ?_
    refine Tr.w hcx [] _ [] rfl rfl rfl ?_ aT
    exact Tr.ret dn
   refine Tr.w hcx [1000024] [some 19,some 20,some 21,some 22,some 23,some 24,some 18] [] rfl rfl rfl ?_ aT
   refine aO rfl ?_
   refine Tr.w hcx [1000027] _ [] rfl rfl rfl ?_ aT
   refine Tr.k [25] ?_
   refine aw rfl (fun hc25=>?_) (fun hc25=>?_)
   ·
    refine Tr.w hcx [] _ [] rfl rfl rfl ?_ aT
    exact Tr.ret dn
   refine Tr.skip ?_
   refine hK1 _ ?_
   refine Tr.w hcx [] _ [] rfl rfl rfl ?_ aT
   exact Tr.ret dn
  refine Tr.w hcx [1000024] [some 19,some 20,some 21,some 22,some 23,some 24,some 18] [] rfl rfl rfl ?_ aT
  refine aO rfl ?_
  refine Tr.w hcx [1000027] _ [] rfl rfl rfl ?_ aT
  refine Tr.k [25] ?_
  refine aw rfl (fun hc25=>?_) (fun hc25=>?_)
  ·
   refine Tr.w hcx [] _ [] rfl rfl rfl ?_ aT
   exact Tr.ret dn
  refine Tr.skip ?_
  refine hK1 _ ?_
  refine Tr.w hcx [] _ [] rfl rfl rfl ?_ aT
  exact Tr.ret dn
 refine Tr.w hcx [1000017] [some 4,some 5,some 6,some 7,some 8,some 9,some 10,some 11,some 12,some 13,some 14,some 15,some 16,some 17,some 3] [] rfl rfl rfl ?_ aT
 refine aO rfl ?_
 by_cases a5:UInt8.ofNat 48≤c
 ·
  by_cases a6:c≤UInt8.ofNat 57
  ·
   refine Tr.w hcx [1000024] [some 19,some 20,some 21,some 22,some 23,some 24,some 18] [] rfl rfl rfl ?_ aT
   refine bn rfl ?_
   refine Tr.w hcx [] _ [] rfl rfl rfl ?_ aT
   exact Tr.ret dn
  refine Tr.w hcx [1000024] [some 19,some 20,some 21,some 22,some 23,some 24,some 18] [] rfl rfl rfl ?_ aT
  refine aO rfl ?_
  refine Tr.w hcx [1000027] _ [] rfl rfl rfl ?_ aT
  refine Tr.k [25] ?_
  refine aw rfl (fun hc25=>?_) (fun hc25=>?_)
  ·
   refine Tr.w hcx [] _ [] rfl rfl rfl ?_ aT
   exact Tr.ret dn
  refine Tr.skip ?_
  refine hK1 _ ?_
  refine Tr.w hcx [] _ [] rfl rfl rfl ?_ aT
  exact Tr.ret dn
 refine Tr.w hcx [1000024] [some 19,some 20,some 21,some 22,some 23,some 24,some 18] [] rfl rfl rfl ?_ aT
 refine aO rfl ?_
 refine Tr.w hcx [1000027] _ [] rfl rfl rfl ?_ aT
 refine Tr.k [25] ?_
 refine aw rfl (fun hc25=>?_) (fun hc25=>?_)
 ·
  refine Tr.w hcx [] _ [] rfl rfl rfl ?_ aT
  exact Tr.ret dn
 refine Tr.skip ?_
 refine hK1 _ ?_
 refine Tr.w hcx [] _ [] rfl rfl rfl ?_ aT
 exact Tr.ret dn
theorem fu {p:Prop}(e:p:=by intro KZ hZ;simp -implicitDefEqProofs (disch:=first|omega| (simp only[go_sem,lA,lD,lT] <;>omega) |decide) only[go_sem,↓reduceIte,Nat.reduceEqDiff,reduceCtorEq,Nat.reduceLT,Nat.reduceBEq,Nat.reduceAdd,h100,b1,b2,b3,hy];with_reducible exact hZ):p:=e
theorem mM {p:Prop}(e:p:=by simp -implicitDefEqProofs (disch:=first|omega| (simp only[go_sem,lA,lD,lT] <;>omega) |decide) only[go_sem,↓reduceIte,Nat.reduceEqDiff,reduceCtorEq];all_goals (exact congrArg (fun z=>some (C.val (nI z))) (by rw[←hr,C4 (by intro hh;first|exact b3 hh.2.1|omega)];rfl))):p:=e
theorem Um {gl:Nat→C}{M:Nat}{pu:Nat→List C→Option C}(hcx:CxOK (aD gl M pu))(h100:∀c:UInt8,pu 100 [.val (w8 c)] =some (.val (nI (kd c))))(s:List UInt8)(i:Nat)(hs:i< s.length∧s.length≤1000000):FC Tryd.prog gl 99 [.val (nI i),.kp [.val (str s)]] [] (.val (nI (eH s i))) []:=by
 replace hcx:=hcx.reN (M:=35)
 refine bI (cx:=aD gl 35 pu) (rs:=[.tmp 3]) rfl Tryd.func99 rfl rfl rfl (by simp only[List.length_cons,List.length_nil];decide) (by simp only[go_sem]) ?_
 simp only[cZ,go_sem]
 have b1:=True.intro
 have b2:=True.intro
 have b3:=True.intro
 have hy:=True.intro
 refine Tr.w hcx [] _ [] rfl rfl rfl ?_ fu
 refine Tr.w hcx [1000009] _ [] rfl rfl rfl ?_ fu
 refine Tr.w hcx [1000011] _ [] rfl rfl rfl ?_ fu
 refine Tr.k [1,4,5] ?_
 refine ae fun K1 hK1=>?_
 refine am ?_
 refine aV (α:=Nat) (fun a=>[(1,?v1_1),(4,?v4_1),(5,.val (nI a))]) (fun a=>?h_1) (fun a=>i< a∧a≤s.length∧a+ir (kd (gt s i)) (s.drop a) =eH s i) (fun a=>s.length - a) (i+1) ⟨Nat.lt_succ_self _,hs.1,rfl⟩ ?le_1 ?hh_1 ?bd_1
 case hh_1=>exact rfl
 case le_1=>exact LT
 rintro j ⟨hj,hj2,hr⟩
 refine ae fun K2 hK2=>?_
 by_cases b1:kd (gt s i) =0
 ·
  by_cases b3:j< s.length
  ·
   refine Tr.w hcx [] [some 12,some 13,some 14,some 15,some 16,some 17,some 18,some 19,some 20,some 21,some 22,some 23,some 24,some 25,some 26,some 27,some 28,some 29,some 30,some 31] [] rfl rfl rfl ?_ fu
   refine aw rfl (fun hc31=>?_) (fun hc31=>?_)
   ·
    have b12:kd (gt s i) < 2:=by omega
    refine Tr.skip ?_
    refine hK2 _ ?_
    refine am ?_
    refine Tr.v hcx [1000033] _ [] rfl rfl rfl ?_ fu
    exact ⟨j+1,⟨⟨by omega,by omega,zN (by omega) b3 (by omega) hr⟩,O1⟩,LT,rfl⟩
   refine Tr.exit ?_
   refine hK1 _ ?_
   refine Tr.w hcx [1000034] _ [] rfl rfl rfl ?_ fu
   exact Tr.ret mM
  refine Tr.w hcx [] [some 12,some 13,some 14,some 15,some 16,some 17,some 18,some 19,some 20,some 21,some 22,some 23,some 24,some 25,some 26,some 27,some 28,some 29,some 30,some 31] [] rfl rfl rfl ?_ fu
  refine aO rfl ?_
  refine Tr.exit ?_
  refine hK1 _ ?_
  refine Tr.w hcx [1000034] _ [] rfl rfl rfl ?_ fu
  exact Tr.ret mM
 by_cases b2:kd (gt s i) =1
 ·
  by_cases b3:j< s.length
  ·
   refine Tr.w hcx [] [some 12,some 13,some 14,some 15,some 16,some 17,some 18,some 19,some 20,some 21,some 22,some 23,some 24,some 25,some 26,some 27,some 28,some 29,some 30,some 31] [] rfl rfl rfl ?_ fu
   refine aw rfl (fun hc31=>?_) (fun hc31=>?_)
   ·
    have b12:kd (gt s i) < 2:=by omega
    refine Tr.skip ?_
    refine hK2 _ ?_
    refine am ?_
    refine Tr.v hcx [1000033] _ [] rfl rfl rfl ?_ fu
    exact ⟨j+1,⟨⟨by omega,by omega,zN (by omega) b3 (by omega) hr⟩,O1⟩,LT,rfl⟩
   refine Tr.exit ?_
   refine hK1 _ ?_
   refine Tr.w hcx [1000034] _ [] rfl rfl rfl ?_ fu
   exact Tr.ret mM
  refine Tr.w hcx [] [some 12,some 13,some 14,some 15,some 16,some 17,some 18,some 19,some 20,some 21,some 22,some 23,some 24,some 25,some 26,some 27,some 28,some 29,some 30,some 31] [] rfl rfl rfl ?_ fu
  refine aO rfl ?_
  refine Tr.exit ?_
  refine hK1 _ ?_
  refine Tr.w hcx [1000034] _ [] rfl rfl rfl ?_ fu
  exact Tr.ret mM
 refine Tr.w hcx [] [some 12,some 13,some 14,some 15,some 16,some 17,some 18,some 19,some 20,some 21,some 22,some 23,some 24,some 25,some 26,some 27,some 28,some 29,some 30,some 31] [] rfl rfl rfl ?_ fu
 refine aO rfl ?_
 refine Tr.exit ?_
 refine hK1 _ ?_
 refine Tr.w hcx [1000034] _ [] rfl rfl rfl ?_ fu
 exact Tr.ret mM
theorem gQ {p:Prop}(e:p:=by intro KZ hZ;simp -implicitDefEqProofs (disch:=first|omega| (simp only[go_sem,lA,lD,lT] <;>omega) |decide) only[go_sem,↓reduceIte,Nat.reduceEqDiff,reduceCtorEq,Nat.reduceLT,Nat.reduceBEq,Nat.reduceAdd,h99,h100,hno,hy];with_reducible exact hZ):p:=e
theorem LC {p:Prop}(e:p:=by simp -implicitDefEqProofs (disch:=first|omega| (simp only[go_sem,lA,lD,lT] <;>omega) |decide) only[go_sem,↓reduceIte,Nat.reduceEqDiff,reduceCtorEq];all_goals (rw[←hr];simp[d6])):p:=e
theorem Un {gl:Nat→C}{M:Nat}{pu:Nat→List C→Option C}(hcx:CxOK (aD gl M pu))(h99:∀ (s:List UInt8) (i:Nat),i< s.length∧s.length≤1000000→pu 99 [.val (nI i),.kp [.val (str s)]] =some (.val (nI (eH s i))))(h100:∀c:UInt8,pu 100 [.val (w8 c)] =some (.val (nI (kd c))))(hno:∀ (g:Nat) (xs:List C),dS xs=true→pu g xs=none)(s:List UInt8)(hs:s.length≤1000000):FC Tryd.prog gl 62 [.val (str s)] [] (sl tC (.own 3) (dO s)) []:=by
 replace hcx:=hcx.reN (M:=33)
 refine bI (cx:=aD gl 33 pu) (rs:=[.tmp 2]) rfl Tryd.func62 rfl rfl rfl (by simp only[List.length_cons,List.length_nil];decide) (by simp only[go_sem]) ?_
 simp only[cZ,go_sem]
 have hy:=True.intro
 refine Tr.w hcx [] _ [none] rfl rfl rfl ?_ gQ
 refine Tr.w hcx [] _ [] rfl rfl rfl ?_ gQ
 refine Tr.w hcx [1000007] _ [] rfl rfl rfl ?_ gQ
 refine ae fun K1 hK1=>?_
 refine Tr.w hcx [] _ [] rfl rfl rfl ?_ gQ
 refine Tr.k [1,3,4,5] ?_
 refine am ?_
 refine aV (α:=(Nat×List Tok)) (fun a=>[(1,?v1_1),(3,sl tC (.own 3) a.2),(4,?v4_1),(5,.val (nI a.1))]) (fun a=>[some [.val (str s)]]) (fun a=>a.1≤s.length∧a.2.length≤a.1∧a.2++d6 a.1 none (s.drop a.1) =dO s) (fun a=>s.length - a.1) ((0,[])) ⟨Nat.zero_le _,Nat.le_refl _,rfl⟩ ?le_1 ?hh_1 ?bd_1
 case hh_1=>exact rfl
 case le_1=>exact LT
 rintro ⟨i,out⟩ ⟨hi,hlen,hr⟩
 dsimp only at*
 refine ae fun K2 hK2=>?_
 refine Tr.w hcx [] _ [] rfl rfl rfl ?_ gQ
 refine aw rfl (fun hc11=>?_) (fun hc11=>?_)
 ·
  refine Tr.skip ?_
  refine hK2 _ ?_
  refine am ?_
  refine ae fun K3 hK3=>?_
  refine Tr.w hcx [] _ [] rfl rfl rfl ?_ gQ
  refine aw rfl (fun hc15=>?_) (fun hc15=>?_)
  ·
   have hc15:gt s i=32:=hc15
   refine Tr.w hcx [1000017] _ [] rfl rfl rfl ?_ gQ
   refine Tr.exit ?_
   refine ⟨if gt s i=32 then (i+1,out) else (eH s i,out++[⟨i,eH s i,kd (gt s i)⟩]),⟨GA hc11 hlen hr,by have:=qT s i hc11;split<;>simp only[] <;>omega⟩,?_,rfl⟩
   (simp only[bQ,bl,↓bF,↓reduceIte,Nat.reduceEqDiff,ba,br,bc,bu,bv,and_true,true_and];all_goals (repeat' first|exact CLe.refl _|exact True.intro| (refine bH ?_;first|rfl| (simp only[List.take_zero];done)) |exact cU (by omega) |exact cM (by omega) |exact cN (by omega) |exact cO (by omega) |with_reducible apply And.intro))
   all_goals (first|rw[if_pos hc15] |rw[if_neg hc15])
   all_goals exact CLe.refl _
  have hc15:¬gt s i=32:=hc15
  refine Tr.skip ?_
  refine hK3 _ ?_
  refine Tr.w hcx [1000020] _ [] rfl rfl rfl ?_ gQ
  refine Tr.k [1,3,4,5,6] ?_
  refine Tr.w hcx [21,1000030] _ [] rfl rfl rfl ?_ gQ
  refine Tr.v hcx [1000031] _ [] rfl rfl rfl ?_ gQ
  refine ⟨if gt s i=32 then (i+1,out) else (eH s i,out++[⟨i,eH s i,kd (gt s i)⟩]),⟨GA hc11 hlen hr,by have:=qT s i hc11;split<;>simp only[] <;>omega⟩,?_,rfl⟩
  (simp only[bQ,bl,↓bF,↓reduceIte,Nat.reduceEqDiff,ba,br,bc,bu,bv,and_true,true_and];all_goals (repeat' first|exact CLe.refl _|exact True.intro| (refine bH ?_;first|rfl| (simp only[List.take_zero];done)) |exact cU (by omega) |exact cM (by omega) |exact cN (by omega) |exact cO (by omega) |with_reducible apply And.intro))
  all_goals (first|rw[if_pos hc15] |rw[if_neg hc15])
  all_goals exact CLe.refl _
 have hie:i=s.length:=by omega
 subst hie
 rw[List.drop_length] at hr
 refine Tr.exit ?_
 refine hK1 _ ?_
 refine Tr.w hcx [1000032] _ [] rfl rfl rfl ?_ gQ
 exact Tr.ret LC
end Go.Sx
namespace Go.Sx
open Go.RowKit Go.Proofs
set_option maxRecDepth 100000
set_option maxHeartbeats 8000000
def k9 (k:Nat)(l:List Tok)(n:Nat):List Nat:=(List.range n).filter fun i=>decide ((gt l i).k=k)
theorem oY (k:Nat)(l:List Tok)(n:Nat): (k9 k l n).length≤n:=by
 unfold k9
 have:=List.length_filter_le (fun i=>decide ((gt l i).k=k)) (List.range n)
 simpa using this
theorem pQ {k:Nat}{l:List Tok}{n:Nat}(h: (gt l n).k=k):k9 k l n++[n] =k9 k l (n+1):=by
 unfold k9;rw[List.range_succ,List.filter_append];simp[h]
theorem pR {k:Nat}{l:List Tok}{n:Nat}(h:¬ (gt l n).k=k):k9 k l n=k9 k l (n+1):=by
 unfold k9;rw[List.range_succ,List.filter_append];simp[h]
theorem ig {p:Prop}(e:p:=by intro KZ hZ;simp -implicitDefEqProofs (disch:=first|omega| (simp only[go_sem,lA,lD,lT,hb1] <;>omega) |decide) only[go_sem,↓reduceIte,Nat.reduceEqDiff,reduceCtorEq,Nat.reduceLT,Nat.reduceBEq,Nat.reduceAdd,h120,hy];with_reducible exact hZ):p:=e
theorem LD {p:Prop}(e:p:=by simp -implicitDefEqProofs (disch:=first|omega| (simp only[go_sem,lA,lD,lT,hb1] <;>omega) |decide) only[go_sem,↓reduceIte,Nat.reduceEqDiff,reduceCtorEq];all_goals (rfl)):p:=e
theorem Uo {gl:Nat→C}{M:Nat}{pu:Nat→List C→Option C}(hcx:CxOK (aD gl M pu))(h120:∀s:List UInt8,s.length≤1000000→pu 120 [.val (str s)] =some (sl tC .no (dO s)))(s:List UInt8)(hs:s.length≤1000000):FC Tryd.prog gl 97 [.val (str s)] [] (sl nC (.own 1) (cG s)) []:=by
 replace hcx:=hcx.reN (M:=25)
 refine bI (cx:=aD gl 25 pu) (rs:=[.tmp 2]) rfl Tryd.func97 rfl rfl rfl (by simp only[List.length_cons,List.length_nil];decide) (by simp only[go_sem]) ?_
 simp only[cZ,go_sem]
 have hy:=True.intro
 have hT:=jp s
 have hb1:=True.intro
 refine Tr.w hcx [] _ [] rfl rfl rfl ?_ ig
 refine Tr.w hcx [1000007] _ [] rfl rfl rfl ?_ ig
 refine Tr.w hcx [] _ [] rfl rfl rfl ?_ ig
 refine ae fun K1 hK1=>?_
 refine Tr.w hcx [] _ [] rfl rfl rfl ?_ ig
 refine Tr.k [3,4,5] ?_
 refine am ?_
 refine aV (α:=Nat) (fun a=>[(3,?v3_1),(4,sl nC (.own 1) (k9 3 (dO s) a)),(5,.val (nI a))]) (fun a=>?h_1) (fun a=>a≤(dO s).length) (fun a=>(dO s).length - a) (0) ?_ ?le_1 ?hh_1 ?bd_1
 case hh_1=>exact rfl
 case le_1=>exact LT
 . omega
 rintro i hi
 have hb1:=oY 3 (dO s) i
 refine ae fun K2 hK2=>?_
 refine Tr.w hcx [] _ [] rfl rfl rfl ?_ ig
 refine aw rfl (fun hc11=>?_) (fun hc11=>?_)
 ·
  refine Tr.skip ?_
  refine hK2 _ ?_
  refine ae fun K3 hK3=>?_
  refine am ?_
  refine Tr.w hcx [] _ [] rfl rfl rfl ?_ ig
  refine aw rfl (fun hc19=>?_) (fun hc19=>?_)
  ·
   refine Tr.v hcx [20,1000023] _ [] rfl rfl rfl ?_ ig
   refine hK3 _ ?_
   refine Tr.v hcx [1000013] _ [] rfl rfl rfl ?_ ig
   refine ⟨i+1,⟨by omega,O1⟩,?_,rfl⟩
   (simp only[bQ,bl,↓bF,↓reduceIte,Nat.reduceEqDiff,ba,br,bc,bu,bv,and_true,true_and];all_goals (repeat' first|exact CLe.refl _|exact True.intro| (refine bH ?_;first|rfl| (simp only[List.take_zero];done)) |exact cU (by omega) |exact cM (by omega) |exact cN (by omega) |exact cO (by omega) |with_reducible apply And.intro))
   all_goals (refine ql ?_;first|exact pQ hc19|exact pR hc19)
  refine Tr.skip ?_
  refine hK3 _ ?_
  refine Tr.v hcx [1000013] _ [] rfl rfl rfl ?_ ig
  refine ⟨i+1,⟨by omega,O1⟩,?_,rfl⟩
  (simp only[bQ,bl,↓bF,↓reduceIte,Nat.reduceEqDiff,ba,br,bc,bu,bv,and_true,true_and];all_goals (repeat' first|exact CLe.refl _|exact True.intro| (refine bH ?_;first|rfl| (simp only[List.take_zero];done)) |exact cU (by omega) |exact cM (by omega) |exact cN (by omega) |exact cO (by omega) |with_reducible apply And.intro))
  all_goals (refine ql ?_;first|exact pQ hc19|exact pR hc19)
 obtain rfl:i= (dO s).length:=by omega
 refine Tr.exit ?_
 refine hK1 _ ?_
 refine Tr.w hcx [1000024] _ [] rfl rfl rfl ?_ ig
 exact Tr.ret LD
theorem ii {p:Prop}(e:p:=by intro KZ hZ;simp -implicitDefEqProofs (disch:=first|omega| (simp only[go_sem,lA,lD,lT,hb1] <;>omega) |decide) only[go_sem,↓reduceIte,Nat.reduceEqDiff,reduceCtorEq,Nat.reduceLT,Nat.reduceBEq,Nat.reduceAdd,hy];with_reducible exact hZ):p:=e
theorem LE {p:Prop}(e:p:=by simp -implicitDefEqProofs (disch:=first|omega| (simp only[go_sem,lA,lD,lT,hb1] <;>omega) |decide) only[go_sem,↓reduceIte,Nat.reduceEqDiff,reduceCtorEq];all_goals (rfl)):p:=e
theorem Up {gl:Nat→C}{M:Nat}{pu:Nat→List C→Option C}(hcx:CxOK (aD gl M pu))(l:List Tok)(k:Nat)(hl:l.length≤1000000):FC Tryd.prog gl 63 [sl tC .no l,.val (nI k)] [] (sl nC (.own 1) (oS k l)) []:=by
 replace hcx:=hcx.reN (M:=25)
 refine bI (cx:=aD gl 25 pu) (rs:=[.tmp 4]) rfl Tryd.func63 rfl rfl rfl (by simp only[List.length_cons,List.length_nil];decide) (by simp only[go_sem]) ?_
 simp only[cZ,go_sem]
 have hy:=True.intro
 have hb1:=True.intro
 refine Tr.w hcx [] _ [] rfl rfl rfl ?_ ii
 refine Tr.w hcx [] _ [] rfl rfl rfl ?_ ii
 refine ae fun K1 hK1=>?_
 refine Tr.w hcx [] _ [] rfl rfl rfl ?_ ii
 refine Tr.k [1,5,8,9,10] ?_
 refine am ?_
 refine aV (α:=Nat) (fun a=>[(1,?v1_1),(5,sl nC (.own 1) (k9 k l a)),(8,?v8_1),(9,?v9_1),(10,.val (nI a))]) (fun a=>[]) (fun a=>a≤l.length) (fun a=>l.length - a) (0) ?_ ?le_1 ?hh_1 ?bd_1
 case hh_1=>exact rfl
 case le_1=>exact LT
 . omega
 rintro i hi
 have hb1:=oY k l i
 refine Tr.w hcx [] _ [] rfl rfl rfl ?_ ii
 refine ae fun K2 hK2=>?_
 refine aw rfl (fun hc11=>?_) (fun hc11=>?_)
 ·
  refine Tr.skip ?_
  refine hK2 _ ?_
  refine ae fun K3 hK3=>?_
  refine am ?_
  refine Tr.w hcx [1000012] _ [none] rfl rfl rfl ?_ ii
  refine Tr.w hcx [] _ [] rfl rfl rfl ?_ ii
  refine aw rfl (fun hc18=>?_) (fun hc18=>?_)
  ·
   refine Tr.v hcx [19,1000022] _ [] rfl rfl rfl ?_ ii
   refine hK3 _ ?_
   refine Tr.k [1,5,8,9,10] ?_
   refine bD hcx [] ?_
   refine Tr.v hcx [] _ [] rfl rfl rfl ?_ ii
   refine ⟨i+1,⟨by omega,O1⟩,?_,rfl⟩
   (simp only[bQ,bl,↓bF,↓reduceIte,Nat.reduceEqDiff,ba,br,bc,bu,bv,and_true,true_and];all_goals (repeat' first|exact CLe.refl _|exact True.intro| (refine bH ?_;first|rfl| (simp only[List.take_zero];done)) |exact cU (by omega) |exact cM (by omega) |exact cN (by omega) |exact cO (by omega) |with_reducible apply And.intro))
   all_goals (refine ql ?_;first|exact pQ hc18|exact pR hc18)
  refine Tr.skip ?_
  refine hK3 _ ?_
  refine Tr.k [1,5,8,9,10] ?_
  refine bD hcx [] ?_
  refine Tr.v hcx [] _ [] rfl rfl rfl ?_ ii
  refine ⟨i+1,⟨by omega,O1⟩,?_,rfl⟩
  (simp only[bQ,bl,↓bF,↓reduceIte,Nat.reduceEqDiff,ba,br,bc,bu,bv,and_true,true_and];all_goals (repeat' first|exact CLe.refl _|exact True.intro| (refine bH ?_;first|rfl| (simp only[List.take_zero];done)) |exact cU (by omega) |exact cM (by omega) |exact cN (by omega) |exact cO (by omega) |with_reducible apply And.intro))
  all_goals (refine ql ?_;first|exact pQ hc18|exact pR hc18)
 obtain rfl:i=l.length:=by omega
 refine Tr.exit ?_
 refine hK1 _ ?_
 refine Tr.w hcx [1000024] _ [] rfl rfl rfl ?_ ii
 exact Tr.ret LE
end Go.Sx
namespace Go.Sx
open Go.RowKit Go.Proofs
set_option maxRecDepth 100000
set_option maxHeartbeats 8000000
theorem Ih (k:Nat)(l:List Tok): (oS k l).length≤l.length:=oY k l l.length
theorem zO {p:Prop}(e:p:=by intro KZ hZ;simp -implicitDefEqProofs (disch:=first|omega| (simp only[go_sem,lA,lD,lT] <;>omega) |decide) only[go_sem,↓reduceIte,Nat.reduceEqDiff,reduceCtorEq,Nat.reduceLT,Nat.reduceBEq,Nat.reduceAdd,h62,h63,hy];with_reducible exact hZ):p:=e
theorem LF {p:Prop}(e:p:=by simp -implicitDefEqProofs (disch:=first|omega| (simp only[go_sem,lA,lD,lT] <;>omega) |decide) only[go_sem,↓reduceIte,Nat.reduceEqDiff,reduceCtorEq];all_goals (rfl)):p:=e
theorem Uq {gl:Nat→C}{M:Nat}{pu:Nat→List C→Option C}(hcx:CxOK (aD gl M pu))(h62:∀s:List UInt8,s.length≤1000000→pu 62 [.val (str s)] =some (sl tC (.own 3) (dO s)))(h63:∀ (l:List Tok) (k:Nat),l.length≤1000000→pu 63 [sl tC .no l,.val (nI k)] =some (sl nC (.own 1) (oS k l)))(s:List UInt8)(hs:s.length≤1000000):FC Tryd.prog gl 16 [.val (str s)] [] (sl nC (.own 1) (cG s)) []:=by
 replace hcx:=hcx.reN (M:=6)
 refine bI (cx:=aD gl 6 pu) (rs:=[.tmp 2]) rfl Tryd.func16 rfl rfl rfl (by simp only[List.length_cons,List.length_nil];decide) (by simp only[go_sem]) ?_
 simp only[cZ,go_sem]
 have hy:=True.intro
 have hT:=jp s
 refine Tr.w hcx [] _ [] rfl rfl rfl ?_ zO
 refine Tr.w hcx [1000005] _ [] rfl rfl rfl ?_ zO
 exact Tr.ret LF
end Go.Sx
namespace Go.Sx
open Go.RowKit Go.Proofs
set_option maxRecDepth 100000
set_option maxHeartbeats 8000000
theorem nD {s:List UInt8}{i:Nat}(h:i< s.length)(hb:eM s i=true):BK s=true:=List.any_eq_true.2 ⟨i,List.mem_range.2 h,hb⟩
theorem pS {s:List UInt8}(h:∀j,j< s.length→eM s j=false):¬BK s=true:=by
 intro hb
 obtain ⟨i,h1,h2⟩:=List.any_eq_true.1 hb
 rw[h i (List.mem_range.1 h1)] at h2;cases h2
theorem qU {s:List UInt8}{i:Nat}(hi:i< s.length)(d2:¬gt s 0=32)(d3:¬gt s (s.length - 1) =32)(b1:¬gt s i< 32)(b2:¬126< gt s i)(b:¬ (gt s i=32∧0< i∧gt s (i - 1) =32)):eM s i=false:=by
 unfold eM
 rw[decide_eq_false b1,decide_eq_false b2,Bool.false_or,Bool.false_or]
 by_cases h:gt s i=32
 . rw[decide_eq_true h,Bool.true_and]
   by_cases h0:i=0
   . subst h0;exact absurd h d2
   . by_cases h1:i+1=s.length
     . rw[←h1,Nat.add_sub_cancel] at d3;exact absurd h d3
     . rw[decide_eq_false h0,decide_eq_false h1,decide_eq_false (fun q=>b ⟨h,by omega,q⟩)];rfl
 . rw[decide_eq_false h,Bool.false_and]
theorem Ii {s:List UInt8}{i:Nat}(h:gt s i< 32):eM s i=true:=by unfold eM;rw[decide_eq_true h];rfl
theorem Ij {s:List UInt8}{i:Nat}(h:126< gt s i):eM s i=true:=by unfold eM;rw[decide_eq_true h];simp
theorem Ik {s:List UInt8}{i:Nat}(h:gt s i=32)(h2:gt s (i - 1) =32):eM s i=true:=by unfold eM;rw[decide_eq_true h,decide_eq_true h2];simp
theorem Il {s:List UInt8}(h:gt s 0=32):eM s 0=true:=by unfold eM;rw[decide_eq_true h];simp
theorem Im {s:List UInt8}(h0:¬s.length=0)(h:gt s (s.length - 1) =32):eM s (s.length - 1) =true:=by
 unfold eM;rw[decide_eq_true h,decide_eq_true (show s.length - 1+1=s.length by omega)];simp
theorem pT {s:List UInt8}(h7:¬4096< s.length)(h:BK s=true):cC s=2:=by unfold cC;rw[if_neg h7,if_pos h]
theorem Rx {s:List UInt8}(h:s.length=0):cC s=2:=by
 have:s= []:=List.eq_nil_of_length_eq_zero h
 subst this;rfl
theorem ku {p:Prop}(e:p:=by intro KZ hZ;simp -implicitDefEqProofs (disch:=first|omega| (simp only[go_sem,lA,lD,lT] <;>omega) |decide) only[go_sem,↓reduceIte,Nat.reduceEqDiff,reduceCtorEq,Nat.reduceLT,Nat.reduceBEq,Nat.reduceAdd,b1,b2,b3,b4,b5,hy];with_reducible exact hZ):p:=e
theorem ls {p:Prop}(e:p:=by simp -implicitDefEqProofs (disch:=first|omega| (simp only[go_sem,lA,lD,lT] <;>omega) |decide) only[go_sem,↓reduceIte,Nat.reduceEqDiff,reduceCtorEq];all_goals (exact congrArg (fun z=>some (C.val (.bool z))) (by unfold eM;simp_all<;>omega))):p:=e
theorem Ur {gl:Nat→C}{M:Nat}{pu:Nat→List C→Option C}(hcx:CxOK (aD gl M pu))(s:List UInt8)(i:Nat)(hs:i< s.length∧s.length≤1000000):FC Tryd.prog gl 61 [.val (nI i),.kp [.val (str s)]] [] (.val (.bool (eM s i))) []:=by
 replace hcx:=hcx.reN (M:=38)
 refine bI (cx:=aD gl 38 pu) (rs:=[.tmp 3]) rfl Tryd.func61 rfl rfl rfl (by simp only[List.length_cons,List.length_nil];decide) (by simp only[go_sem]) ?_
 simp only[cZ,go_sem]
 have b1:=True.intro
 have b2:=True.intro
 have b3:=True.intro
 have b4:=True.intro
 have b5:=True.intro
 have hy:=True.intro
 refine Tr.w hcx [] _ [] rfl rfl rfl ?_ ku
 refine Tr.k [0,1] ?_
 by_cases b1:gt s i< UInt8.ofNat 32
 ·
  refine Tr.w hcx [1000037] [some 4,some 5,some 6,some 7,some 8,some 9,some 10,some 11,some 12,some 13,some 14,some 15,some 16,some 17,some 18,some 19,some 20,some 21,some 22,some 23,some 24,some 25,some 26,some 27,some 28,some 29,some 30,some 31,some 32,some 33,some 34,some 35,some 36,some 37,some 3] [] rfl rfl rfl ?_ ku
  refine Tr.k [3] ?_
  exact Tr.ret ls
 by_cases b2:UInt8.ofNat 126< gt s i
 ·
  refine Tr.w hcx [1000037] [some 4,some 5,some 6,some 7,some 8,some 9,some 10,some 11,some 12,some 13,some 14,some 15,some 16,some 17,some 18,some 19,some 20,some 21,some 22,some 23,some 24,some 25,some 26,some 27,some 28,some 29,some 30,some 31,some 32,some 33,some 34,some 35,some 36,some 37,some 3] [] rfl rfl rfl ?_ ku
  refine Tr.k [3] ?_
  exact Tr.ret ls
 by_cases b3:gt s i=UInt8.ofNat 32
 ·
  have b3o:=b3
  replace b3:=eq_true b3
  by_cases b4:i=0
  ·
   have b4o:=b4
   replace b4:=eq_true b4
   refine Tr.w hcx [1000037] [some 4,some 5,some 6,some 7,some 8,some 9,some 10,some 11,some 12,some 13,some 14,some 15,some 16,some 17,some 18,some 19,some 20,some 21,some 22,some 23,some 24,some 25,some 26,some 27,some 28,some 29,some 30,some 31,some 32,some 33,some 34,some 35,some 36,some 37,some 3] [] rfl rfl rfl ?_ ku
   refine Tr.k [3] ?_
   exact Tr.ret ls
  have b4o:=b4
  replace b4:=eq_false b4
  by_cases b5:i=s.length - 1
  ·
   have b5o:=b5
   replace b5:=eq_true b5
   refine Tr.w hcx [1000037] [some 4,some 5,some 6,some 7,some 8,some 9,some 10,some 11,some 12,some 13,some 14,some 15,some 16,some 17,some 18,some 19,some 20,some 21,some 22,some 23,some 24,some 25,some 26,some 27,some 28,some 29,some 30,some 31,some 32,some 33,some 34,some 35,some 36,some 37,some 3] [] rfl rfl rfl ?_ ku
   refine Tr.k [3] ?_
   exact Tr.ret ls
  have b5o:=b5
  replace b5:=eq_false b5
  refine Tr.w hcx [1000037] [some 4,some 5,some 6,some 7,some 8,some 9,some 10,some 11,some 12,some 13,some 14,some 15,some 16,some 17,some 18,some 19,some 20,some 21,some 22,some 23,some 24,some 25,some 26,some 27,some 28,some 29,some 30,some 31,some 32,some 33,some 34,some 35,some 36,some 37,some 3] [] rfl rfl rfl ?_ ku
  refine Tr.k [3] ?_
  exact Tr.ret ls
 have b3o:=b3
 replace b3:=eq_false b3
 refine Tr.w hcx [1000037] [some 4,some 5,some 6,some 7,some 8,some 9,some 10,some 11,some 12,some 13,some 14,some 15,some 16,some 17,some 18,some 19,some 20,some 21,some 22,some 23,some 24,some 25,some 26,some 27,some 28,some 29,some 30,some 31,some 32,some 33,some 34,some 35,some 36,some 37,some 3] [] rfl rfl rfl ?_ ku
 refine Tr.k [3] ?_
 exact Tr.ret ls
theorem fv {p:Prop}(e:p:=by intro KZ hZ;simp -implicitDefEqProofs (disch:=first|omega| (simp only[go_sem,lA,lD,lT] <;>omega) |decide) only[go_sem,↓reduceIte,Nat.reduceEqDiff,reduceCtorEq,Nat.reduceLT,Nat.reduceBEq,Nat.reduceAdd,h62,h61,hno,hy];with_reducible exact hZ):p:=e
theorem mN {p:Prop}(e:p:=by simp -implicitDefEqProofs (disch:=first|omega| (simp only[go_sem,lA,lD,lT] <;>omega) |decide) only[go_sem,↓reduceIte,Nat.reduceEqDiff,reduceCtorEq];all_goals (exact congrArg (fun z=>some (C.val (nI z))) (by unfold cC;first|rw[if_pos hc7] |rw[if_neg hc7,if_pos (nD hc12 hc16)] |rw[if_neg hc7,if_neg (pS hA),if_pos hc18] |rw[if_neg hc7,if_neg (pS hA),if_neg hc18,if_pos hc21] |rw[if_neg hc7,if_neg (pS hA),if_neg hc18,if_neg hc21]))):p:=e
theorem Us {gl:Nat→C}{M:Nat}{pu:Nat→List C→Option C}(hcx:CxOK (aD gl M pu))(h62:∀s:List UInt8,s.length≤1000000→pu 62 [.val (str s)] =some (sl tC (.own 3) (dO s)))(h61:∀ (s:List UInt8) (i:Nat),i< s.length∧s.length≤1000000→pu 61 [.val (nI i),.kp [.val (str s)]] =some (.val (.bool (eM s i))))(hno:∀ (g:Nat) (xs:List C),dS xs=true→pu g xs=none)(s:List UInt8)(hs:s.length≤1000000):FC Tryd.prog gl 15 [.val (str s)] [] (.val (nI (cC s))) []:=by
 replace hcx:=hcx.reN (M:=26)
 refine bI (cx:=aD gl 26 pu) (rs:=[.tmp 2]) rfl Tryd.func15 rfl rfl rfl (by simp only[List.length_cons,List.length_nil];decide) (by simp only[go_sem]) ?_
 simp only[cZ,go_sem]
 have hy:=True.intro
 have hT:=jp s
 refine Tr.w hcx [] _ [none] rfl rfl rfl ?_ fv
 refine ae fun K1 hK1=>?_
 refine Tr.w hcx [] _ [] rfl rfl rfl ?_ fv
 refine aw rfl (fun hc7=>?_) (fun hc7=>?_)
 ·
  refine Tr.w hcx [] _ [] rfl rfl rfl ?_ fv
  exact Tr.ret mN
 refine Tr.skip ?_
 refine hK1 _ ?_
 refine Tr.w hcx [1000008] _ [] rfl rfl rfl ?_ fv
 refine ae fun K2 hK2=>?_
 refine Tr.w hcx [] _ [] rfl rfl rfl ?_ fv
 refine Tr.k [1,3,10,11] ?_
 refine am ?_
 refine aV (α:=Nat) (fun a=>[(1,?v1_1),(3,?v3_1),(10,?v10_1),(11,.val (nI a))]) (fun a=>[some [.val (str s)]]) (fun a=>a≤s.length∧∀j,j< a→eM s j=false) (fun a=>s.length - a) (0) ⟨Nat.zero_le _,fun j hj=>absurd hj (Nat.not_lt_zero j)⟩ ?le_1 ?hh_1 ?bd_1
 case hh_1=>exact rfl
 case le_1=>exact LT
 rintro i ⟨hi,hA⟩
 refine Tr.w hcx [] _ [] rfl rfl rfl ?_ fv
 refine ae fun K3 hK3=>?_
 refine aw rfl (fun hc12=>?_) (fun hc12=>?_)
 ·
  refine Tr.skip ?_
  refine hK3 _ ?_
  refine ae fun K4 hK4=>?_
  refine am ?_
  refine Tr.w hcx [1000013] _ [] rfl rfl rfl ?_ fv
  refine Tr.w hcx [] _ [] rfl rfl rfl ?_ fv
  refine Tr.condG fun KT KF hT hF=>?_
  simp only[f9,ub,↓bF,↓reduceIte,Nat.reduceEqDiff,reduceCtorEq,iT,wy,uc,decide_eq_true_eq]
  refine GB.mk (fun hc16=>hT ?_) (fun hc16=>hF ?_)
  ·
   refine Tr.w hcx [] _ [] rfl rfl rfl ?_ fv
   exact Tr.ret mN
  refine Tr.skip ?_
  refine hK4 _ ?_
  refine Tr.v hcx [] _ [] rfl rfl rfl ?_ fv
  exact ⟨i+1,⟨⟨by omega,fun j hj=>(Nat.lt_or_eq_of_le (Nat.le_of_lt_succ hj)).elim (hA j) (fun e=>e▸hc16)⟩,O1⟩,LT,rfl⟩
 obtain rfl:i=s.length:=by omega
 refine Tr.exit ?_
 refine hK2 _ ?_
 refine ae fun K5 hK5=>?_
 refine am ?_
 refine Tr.w hcx [1000020] _ [] rfl rfl rfl ?_ fv
 refine aw rfl (fun hc18=>?_) (fun hc18=>?_)
 ·
  refine Tr.w hcx [] _ [] rfl rfl rfl ?_ fv
  exact Tr.ret mN
 refine Tr.w hcx [1000025] _ [] rfl rfl rfl ?_ fv
 refine aw rfl (fun hc21=>?_) (fun hc21=>?_)
 ·
  refine Tr.w hcx [] _ [] rfl rfl rfl ?_ fv
  exact Tr.ret mN
 refine Tr.skip ?_
 refine hK5 _ ?_
 refine Tr.w hcx [] _ [] rfl rfl rfl ?_ fv
 exact Tr.ret mN
theorem dQ {p:Prop}(e:p:=by intro KZ hZ;simp -implicitDefEqProofs (disch:=first|omega| (simp only[go_sem,lA,lD,lT] <;>omega) |decide) only[go_sem,↓reduceIte,Nat.reduceEqDiff,reduceCtorEq,Nat.reduceLT,Nat.reduceBEq,Nat.reduceAdd,h120,d1,d2,b1,b2,b3,b4,hy];with_reducible exact hZ):p:=e
theorem iM {p:Prop}(e:p:=by simp -implicitDefEqProofs (disch:=first|omega| (simp only[go_sem,lA,lD,lT] <;>omega) |decide) only[go_sem,↓reduceIte,Nat.reduceEqDiff,reduceCtorEq];all_goals (exact congrArg (fun z=>some (C.val (nI z))) (by first| (unfold cC;rw[if_pos hc6]) |rw[Rx d1o] |rw[pT hc6 (nD (by omega) (Il d2o))] |rw[pT hc6 (nD (by omega) (Im d1o hc22))] |rw[pT hc6 (nD hc26 (Ii b1))] |rw[pT hc6 (nD hc26 (Ij b2))] |rw[pT hc6 (nD hc26 (Ik b4o hc55))] | (unfold cC;rw[if_neg hc6,if_neg (pS hA),if_neg (fun e=>d1o (by rw[e];rfl)),if_pos hc59]) | (unfold cC;rw[if_neg hc6,if_neg (pS hA),if_neg (fun e=>d1o (by rw[e];rfl)),if_neg hc59])))):p:=e
theorem Ut {gl:Nat→C}{M:Nat}{pu:Nat→List C→Option C}(hcx:CxOK (aD gl M pu))(h120:∀s:List UInt8,s.length≤1000000→pu 120 [.val (str s)] =some (sl tC .no (dO s)))(s:List UInt8)(hs:s.length≤1000000):FC Tryd.prog gl 96 [.val (str s)] [] (.val (nI (cC s))) []:=by
 replace hcx:=hcx.reN (M:=60)
 refine bI (cx:=aD gl 60 pu) (rs:=[.tmp 2]) rfl Tryd.func96 rfl rfl rfl (by simp only[List.length_cons,List.length_nil];decide) (by simp only[go_sem]) ?_
 simp only[cZ,go_sem]
 have d1:=True.intro
 have d2:=True.intro
 have b1:=True.intro
 have b2:=True.intro
 have b3:=True.intro
 have b4:=True.intro
 have hy:=True.intro
 have hT:=jp s
 refine Tr.w hcx [] _ [] rfl rfl rfl ?_ dQ
 refine ae fun K1 hK1=>?_
 refine Tr.w hcx [] _ [] rfl rfl rfl ?_ dQ
 refine aw rfl (fun hc6=>?_) (fun hc6=>?_)
 ·
  refine Tr.w hcx [] _ [] rfl rfl rfl ?_ dQ
  exact Tr.ret iM
 refine Tr.skip ?_
 refine hK1 _ ?_
 refine ae fun K2 hK2=>?_
 by_cases d1:s.length=0
 ·
  have d1o:=d1
  replace d1:=eq_true d1
  refine Tr.w hcx [] [some 7,some 8,some 9,some 10,some 11,some 12,some 13,some 14,some 15,some 16,some 17,some 18,some 19,some 20,some 21,some 22] [] rfl rfl rfl ?_ dQ
  refine bn rfl ?_
  refine Tr.w hcx [] _ [] rfl rfl rfl ?_ dQ
  exact Tr.ret iM
 have d1o:=d1
 replace d1:=eq_false d1
 by_cases d2:gt s 0=UInt8.ofNat 32
 ·
  have d2o:=d2
  replace d2:=eq_true d2
  refine Tr.w hcx [] [some 7,some 8,some 9,some 10,some 11,some 12,some 13,some 14,some 15,some 16,some 17,some 18,some 19,some 20,some 21,some 22] [] rfl rfl rfl ?_ dQ
  refine bn rfl ?_
  refine Tr.w hcx [] _ [] rfl rfl rfl ?_ dQ
  exact Tr.ret iM
 have d2o:=d2
 replace d2:=eq_false d2
 refine Tr.w hcx [] [some 7,some 8,some 9,some 10,some 11,some 12,some 13,some 14,some 15,some 16,some 17,some 18,some 19,some 20,some 21,some 22] [] rfl rfl rfl ?_ dQ
 refine aw rfl (fun hc22=>?_) (fun hc22=>?_)
 ·
  refine Tr.w hcx [] _ [] rfl rfl rfl ?_ dQ
  exact Tr.ret iM
 refine Tr.skip ?_
 refine hK2 _ ?_
 refine ae fun K3 hK3=>?_
 refine Tr.w hcx [] _ [] rfl rfl rfl ?_ dQ
 refine Tr.k [0,3] ?_
 refine am ?_
 refine aV (α:=Nat) (fun a=>[(0,?v0_1),(3,.val (nI a))]) (fun a=>?h_1) (fun a=>a≤s.length∧∀j,j< a→eM s j=false) (fun a=>s.length - a) (0) ⟨Nat.zero_le _,fun j hj=>absurd hj (Nat.not_lt_zero j)⟩ ?le_1 ?hh_1 ?bd_1
 case hh_1=>exact rfl
 case le_1=>exact LT
 rintro i ⟨hi,hA⟩
 refine ae fun K4 hK4=>?_
 refine Tr.w hcx [] _ [] rfl rfl rfl ?_ dQ
 refine aw rfl (fun hc26=>?_) (fun hc26=>?_)
 ·
  refine Tr.skip ?_
  refine hK4 _ ?_
  refine Tr.k [0,3] ?_
  refine ae fun K5 hK5=>?_
  refine am ?_
  by_cases b1:gt s i< UInt8.ofNat 32
  ·
   refine Tr.w hcx [] [some 29,some 30,some 31,some 32,some 33,some 34,some 35,some 36,some 37,some 38,some 39,some 40,some 41,some 42,some 43,some 44,some 45,some 46,some 47,some 48,some 49,some 50,some 51,some 52,some 53,some 54,some 55] [] rfl rfl rfl ?_ dQ
   refine Tr.k [0,3,55] ?_
   refine bn rfl ?_
   refine Tr.w hcx [] _ [] rfl rfl rfl ?_ dQ
   exact Tr.ret iM
  by_cases b2:UInt8.ofNat 126< gt s i
  ·
   refine Tr.w hcx [] [some 29,some 30,some 31,some 32,some 33,some 34,some 35,some 36,some 37,some 38,some 39,some 40,some 41,some 42,some 43,some 44,some 45,some 46,some 47,some 48,some 49,some 50,some 51,some 52,some 53,some 54,some 55] [] rfl rfl rfl ?_ dQ
   refine Tr.k [0,3,55] ?_
   refine bn rfl ?_
   refine Tr.w hcx [] _ [] rfl rfl rfl ?_ dQ
   exact Tr.ret iM
  by_cases b3:0< i
  ·
   by_cases b4:gt s i=UInt8.ofNat 32
   ·
    have b4o:=b4
    replace b4:=eq_true b4
    refine Tr.w hcx [] [some 29,some 30,some 31,some 32,some 33,some 34,some 35,some 36,some 37,some 38,some 39,some 40,some 41,some 42,some 43,some 44,some 45,some 46,some 47,some 48,some 49,some 50,some 51,some 52,some 53,some 54,some 55] [] rfl rfl rfl ?_ dQ
    refine Tr.k [0,3,55] ?_
    refine aw rfl (fun hc55=>?_) (fun hc55=>?_)
    ·
     refine Tr.w hcx [] _ [] rfl rfl rfl ?_ dQ
     exact Tr.ret iM
    refine Tr.skip ?_
    refine hK5 _ ?_
    refine Tr.v hcx [1000028] _ [] rfl rfl rfl ?_ dQ
    exact ⟨i+1,⟨⟨by omega,fun j hj=>(Nat.lt_or_eq_of_le (Nat.le_of_lt_succ hj)).elim (hA j) (fun e=>e▸qU hc26 d2o hc22 b1 b2 (by intro hh;first|exact b3 hh.2.1|exact b4o hh.1|exact hc55 hh.2.2))⟩,O1⟩,LT,rfl⟩
   have b4o:=b4
   replace b4:=eq_false b4
   refine Tr.w hcx [] [some 29,some 30,some 31,some 32,some 33,some 34,some 35,some 36,some 37,some 38,some 39,some 40,some 41,some 42,some 43,some 44,some 45,some 46,some 47,some 48,some 49,some 50,some 51,some 52,some 53,some 54,some 55] [] rfl rfl rfl ?_ dQ
   refine Tr.k [0,3,55] ?_
   refine aO rfl ?_
   refine Tr.skip ?_
   refine hK5 _ ?_
   refine Tr.v hcx [1000028] _ [] rfl rfl rfl ?_ dQ
   exact ⟨i+1,⟨⟨by omega,fun j hj=>(Nat.lt_or_eq_of_le (Nat.le_of_lt_succ hj)).elim (hA j) (fun e=>e▸qU hc26 d2o hc22 b1 b2 (by intro hh;first|exact b3 hh.2.1|exact b4o hh.1|exact hc55 hh.2.2))⟩,O1⟩,LT,rfl⟩
  refine Tr.w hcx [] [some 29,some 30,some 31,some 32,some 33,some 34,some 35,some 36,some 37,some 38,some 39,some 40,some 41,some 42,some 43,some 44,some 45,some 46,some 47,some 48,some 49,some 50,some 51,some 52,some 53,some 54,some 55] [] rfl rfl rfl ?_ dQ
  refine Tr.k [0,3,55] ?_
  refine aO rfl ?_
  refine Tr.skip ?_
  refine hK5 _ ?_
  refine Tr.v hcx [1000028] _ [] rfl rfl rfl ?_ dQ
  exact ⟨i+1,⟨⟨by omega,fun j hj=>(Nat.lt_or_eq_of_le (Nat.le_of_lt_succ hj)).elim (hA j) (fun e=>e▸qU hc26 d2o hc22 b1 b2 (by intro hh;first|exact b3 hh.2.1|exact b4o hh.1|exact hc55 hh.2.2))⟩,O1⟩,LT,rfl⟩
 obtain rfl:i=s.length:=by omega
 refine Tr.exit ?_
 refine hK3 _ ?_
 refine ae fun K6 hK6=>?_
 refine Tr.w hcx [] _ [] rfl rfl rfl ?_ dQ
 refine aw rfl (fun hc59=>?_) (fun hc59=>?_)
 ·
  refine Tr.w hcx [] _ [] rfl rfl rfl ?_ dQ
  exact Tr.ret iM
 refine Tr.skip ?_
 refine hK6 _ ?_
 refine Tr.w hcx [] _ [] rfl rfl rfl ?_ dQ
 exact Tr.ret iM
end Go.Sx
namespace Go.Sx
def aa (n:Int)(m:Nat):Nat:=((if n< 0 then -(n+1) else n).tmod (m:Int)).toNat
theorem qw (n:Int)(m:Nat): (((aa n m:Nat):Int)) = (if n< 0 then -(n+1) else n).tmod (m:Int):=by
 unfold aa
 refine Int.toNat_of_nonneg (Int.tmod_nonneg _ ?_)
 split<;>omega
theorem cJ (n:Int){m:Nat}(h:0< m):aa n m< m:=by
 have h1:=qw n m
 have h2:=Int.tmod_lt_of_pos (if n< 0 then -(n+1) else n) (b:=(m:Int)) (by omega)
 omega
def cK (l:List Int)(i m:Nat):Nat:=if l.length≤i then 0 else aa (gt l i) m
theorem er (l:List Int)(i:Nat){m:Nat}(h:0< m):cK l i m< m:=by
 unfold cK;split
 . exact h
 . exact cJ _ h
def rB (c:UInt8):UInt8:=if 97≤c∧c≤122 then c - 97+65 else c
def mE:List UInt8→List UInt8
 | [] =>[]
 |c::r=>rB c::r
def kY (w:List UInt8)(n:Nat):List UInt8:=
 if n=6 then mE w else if n=7 then w++[44] else if n=8 then w++[46] else if n=9 then mE w++[46] else if n=10 then [40]++w++[41] else if n=11 then w++[63] else w
def wlist:List (List UInt8):=[[97,110,110,97],[114,111,109,101],[107,105,110,103],[116,104,101],[111,102],[111,100,101],[108,121,114,101],[120],[49,50]]
def iA (n:Nat):List UInt8:=kY (gt wlist (n % 9)) (n / 9)
def eE (l:List Int)(k:Nat):Nat→List UInt8
 |0=>[]
 |i+1=>(if 0< i then eE l k i++[32] else eE l k i)++iA (cK l (k+1+i) 108)
def fR (l:List Int)(k:Nat):List UInt8:=eE l k (1+cK l k 9)
theorem qx {α:Type}[Inhabited α](l:List α)(p:α→Bool)(h:l.all p=true)(i:Nat)(hi:i< l.length):p (gt l i) =true:=by
 have e:gt l i=l[i]:=by simp[gt,List.getD,List.getElem?_eq_getElem hi]
 rw[e];exact List.all_eq_true.1 h _ (List.getElem_mem hi)
def jP (p:Bool):List UInt8→Bool
 | [] => !p
 |c::r=>if c=32 then !p && jP true r else decide (32≤c) && decide (c≤126) && jP false r
theorem Fo: (List.range 108).all (fun n=>jP true (iA n) && decide ((iA n).length≤7) && decide (0< (iA n).length)) =true:=by decide+kernel
theorem nT:∀ (x:List UInt8)(p:Bool)(y:List UInt8),jP p x=true→jP true y=true→jP p (x++32::y) =true
 | [],p,y,hx,hy=>by
   simp only[jP,Bool.not_eq_true'] at hx;subst hx
   simp only[List.nil_append,jP,if_pos,Bool.not_false,Bool.true_and,hy]
 |c::r,p,y,hx,hy=>by
  simp only[jP,List.cons_append] at hx ⊢
  by_cases hc:c=32
  . rw[if_pos hc] at hx ⊢
    simp only[Bool.and_eq_true] at hx ⊢
    exact ⟨hx.1,nT r true y hx.2 hy⟩
  . rw[if_neg hc] at hx ⊢
    simp only[Bool.and_eq_true] at hx ⊢
    exact ⟨hx.1,nT r false y hx.2 hy⟩
theorem xd (n:Nat)(h:n< 108):jP true (iA n) =true∧(iA n).length≤7∧0< (iA n).length:=by
 have:=List.all_eq_true.1 Fo n (List.mem_range.2 h)
 simp only[Bool.and_eq_true,decide_eq_true_eq] at this
 exact ⟨this.1.1,this.1.2,this.2⟩
theorem pE (l:List Int)(k:Nat):∀i,0< i→jP true (eE l k i) =true∧(eE l k i).length≤8*i∧0< (eE l k i).length
 |0,h=>absurd h (Nat.lt_irrefl 0)
 |1,_=>by
  have:=xd (cK l (k+1+0) 108) (er _ _ (by decide))
  have e:eE l k 1=iA (cK l (k+1+0) 108):=by simp[eE]
  rw[e];exact ⟨this.1,by omega,this.2.2⟩
 |i+2,_=>by
  obtain ⟨h1,h2,h3⟩:=pE l k (i+1) (by omega)
  have u:=xd (cK l (k+1+(i+1)) 108) (er _ _ (by decide))
  have e:eE l k (i+2) =eE l k (i+1)++32::iA (cK l (k+1+(i+1)) 108):=by
   rw[eE,if_pos (by omega)];simp
  rw[e]
  exact ⟨nT _ _ _ h1 u.1,by simp;omega,by simp;omega⟩
theorem BL (l:List Int)(k i:Nat): (eE l k i).length≤8*i:=by
 cases i with
 |zero=>simp[eE]
 |succ i=>exact (pE l k (i+1) (by omega)).2.1
theorem jq (l:List Int)(k:Nat):jP true (fR l k) =true∧(fR l k).length≤72∧0< (fR l k).length:=by
 have h:=er l k (m:=9) (by decide)
 have:=pE l k (1+cK l k 9) (by omega)
 unfold fR
 exact ⟨this.1,by omega,this.2.2⟩
end Go.Sx
namespace Go.Sx
open Go.RowKit Go.Proofs
set_option maxRecDepth 100000
set_option maxHeartbeats 8000000
def LI (l:List Int):Prop:=l.length≤9223372036854775807∧∀i,i< l.length→ -9223372036854775808≤gt l i∧gt l i≤9223372036854775807
theorem LG {c:UInt8}(h1:UInt8.ofNat 97≤c)(h2:c≤UInt8.ofNat 122):c - UInt8.ofNat 97+UInt8.ofNat 65=rB c:=by
 unfold rB;exact (if_pos (c:=97≤c∧c≤122) ⟨h1,h2⟩).symm
theorem LH {c:UInt8}(h:¬ (UInt8.ofNat 97≤c∧c≤UInt8.ofNat 122)):c=rB c:=by
 unfold rB;exact (if_neg h).symm
theorem C5 {w:List UInt8}(h:0< w.length):w.set 0 (rB (gt w 0)) =mE w:=by
 cases w with
 |nil=>simp at h
 |cons c r=>rfl
theorem LJ {w:List UInt8}(h:¬ (UInt8.ofNat 97≤gt w 0∧gt w 0≤UInt8.ofNat 122)):w=mE w:=by
 cases w with
 |nil=>rfl
 |cons c r=>exact congrArg (fun z=>z::r) (LH h)
theorem l6 (w:List UInt8): (mE w).length=w.length:=by cases w<;>rfl
theorem l7 {x y:List UInt8}(h:x=y): (some (C.val (str x))) =some (C.val (str y)):=by rw[h]
theorem LK (i:Nat): (gt wlist i).length≤4:=by
 by_cases h:i< 9
 . have:=qx wlist (fun c=>decide (c.length≤4)) (by decide) i h
   simpa using this
 . have e:gt wlist i= []:=by
    unfold gt List.getD;rw[List.getElem?_eq_none (by show 9≤i;omega)];rfl
   rw[e];decide
theorem C6:sl sC .full ((((((((((List.replicate 9 []).set 0 [97,110,110,97]).set 1 [114,111,109,101]).set 2 [107,105,110,103]).set 3 [116,104,101]).set 4 [111,102]).set 5 [111,100,101]).set 6 [108,121,114,101]).set 7 [120]).set 8 [49,50]) =sl sC .full wlist:=rfl
theorem tT:wlist.length=9:=rfl
theorem wd (l:List Int)(k i:Nat)(h:0< i):eE l k (i+1) =eE l k i++[32]++iA (cK l (k+1+i) 108):=by rw[eE,if_pos h]
theorem we (l:List Int)(k i:Nat)(h:¬0< i):eE l k (i+1) =eE l k i++iA (cK l (k+1+i) 108):=by rw[eE,if_neg h]
theorem C7 (w:List UInt8)(n:Nat): (kY w n).length≤w.length+2:=by
 unfold kY
 repeat' split
 all_goals (try simp only[List.length_append,List.length_cons,List.length_nil,l6])
 all_goals omega
theorem mO {p:Prop}(e:p:=by intro KZ hZ;simp -implicitDefEqProofs (disch:=first|omega| (simp only[go_sem,lA,lD,lT] <;>omega) |decide) only[go_sem,↓reduceIte,Nat.reduceEqDiff,reduceCtorEq,Nat.reduceLT,Nat.reduceBEq,Nat.reduceAdd,hy];with_reducible exact hZ):p:=e
theorem zP {p:Prop}(e:p:=by simp -implicitDefEqProofs (disch:=first|omega| (simp only[go_sem,lA,lD,lT] <;>omega) |decide) only[go_sem,↓reduceIte,Nat.reduceEqDiff,reduceCtorEq];all_goals (exact congrArg (fun z=>some (C.val (.int .i64 z))) (by rw[qw];first| (rw[if_pos (by omega)];rfl) |rw[if_neg (by omega)]))):p:=e
theorem Uu {gl:Nat→C}{M:Nat}{pu:Nat→List C→Option C}(hcx:CxOK (aD gl M pu))(n:Int)(m:Nat)(hn: -9223372036854775808≤n∧n≤9223372036854775807∧0< m∧m≤9223372036854775807):FC Tryd.prog gl 19 [.val (.int .i64 n),.val (nI m)] [] (.val (nI (aa n m))) []:=by
 replace hcx:=hcx.reN (M:=13)
 refine bI (cx:=aD gl 13 pu) (rs:=[.tmp 4]) rfl Tryd.func19 rfl rfl rfl (by simp only[List.length_cons,List.length_nil];decide) (by simp only[go_sem]) ?_
 simp only[cZ,go_sem]
 have hy:=True.intro
 refine Tr.w hcx [] _ [] rfl rfl rfl ?_ mO
 refine ae fun K1 hK1=>?_
 refine Tr.w hcx [] _ [] rfl rfl rfl ?_ mO
 refine aw rfl (fun hc6=>?_) (fun hc6=>?_)
 ·
  refine Tr.v hcx [1000009] _ [] rfl rfl rfl ?_ mO
  refine hK1 _ ?_
  refine Tr.w hcx [1000012] _ [] rfl rfl rfl ?_ mO
  exact Tr.ret zP
 refine Tr.skip ?_
 refine hK1 _ ?_
 refine Tr.w hcx [1000012] _ [] rfl rfl rfl ?_ mO
 exact Tr.ret zP
theorem pU {p:Prop}(e:p:=by intro KZ hZ;simp -implicitDefEqProofs (disch:=first|omega| (simp only[go_sem,lA,lD,lT] <;>omega) |decide) only[go_sem,↓reduceIte,Nat.reduceEqDiff,reduceCtorEq,Nat.reduceLT,Nat.reduceBEq,Nat.reduceAdd,h19,Nat.not_lt_zero,hy];with_reducible exact hZ):p:=e
theorem zQ {p:Prop}(e:p:=by simp -implicitDefEqProofs (disch:=first|omega| (simp only[go_sem,lA,lD,lT] <;>omega) |decide) only[go_sem,↓reduceIte,Nat.reduceEqDiff,reduceCtorEq];all_goals (exact congrArg (fun z=>some (C.val (nI z))) (by unfold cK;first|rw[if_pos hc14] |rw[if_neg hc14]))):p:=e
theorem Uv {gl:Nat→C}{M:Nat}{pu:Nat→List C→Option C}(hcx:CxOK (aD gl M pu))(h19:∀ (n:Int) (m:Nat),-9223372036854775808≤n∧n≤9223372036854775807∧0< m∧m≤9223372036854775807→pu 19 [.val (.int .i64 n),.val (nI m)] =some (.val (nI (aa n m))))(l:List Int)(i m:Nat)(hl:LI l)(hi:i≤1000000)(hm:0< m∧m≤9223372036854775807):FC Tryd.prog gl 65 [sl iC .no l,.val (nI i),.val (nI m)] [] (.val (nI (cK l i m))) []:=by
 replace hcx:=hcx.reN (M:=21)
 refine bI (cx:=aD gl 21 pu) (rs:=[.tmp 6]) rfl Tryd.func65 rfl rfl rfl (by simp only[List.length_cons,List.length_nil];decide) (by simp only[go_sem]) ?_
 simp only[cZ,go_sem]
 have hy:=True.intro
 have hl1:=hl.1
 refine Tr.w hcx [] _ [] rfl rfl rfl ?_ pU
 refine ae fun K1 hK1=>?_
 refine Tr.w hcx [] [some 7,some 8,some 9,some 10,some 11,some 12,some 13,some 14] [] rfl rfl rfl ?_ pU
 refine aw rfl (fun hc14=>?_) (fun hc14=>?_)
 ·
  refine Tr.w hcx [] _ [] rfl rfl rfl ?_ pU
  exact Tr.ret zQ
 have hb1:=hl.2 i (by omega)
 refine Tr.skip ?_
 refine hK1 _ ?_
 refine Tr.w hcx [1000020] _ [] rfl rfl rfl ?_ pU
 exact Tr.ret zQ
theorem fU {p:Prop}(e:p:=by intro KZ hZ;simp -implicitDefEqProofs (disch:=first|omega| (simp only[go_sem,lA,lD,lT] <;>omega) |decide) only[go_sem,↓reduceIte,Nat.reduceEqDiff,reduceCtorEq,Nat.reduceLT,Nat.reduceBEq,Nat.reduceAdd,Nat.zero_add,Nat.mul_one,Nat.zero_mul,b1,b2,b3,hy];with_reducible exact hZ):p:=e
theorem nE {p:Prop}(e:p:=by simp -implicitDefEqProofs (disch:=first|omega| (simp only[go_sem,lA,lD,lT] <;>omega) |decide) only[go_sem,↓reduceIte,Nat.reduceEqDiff,reduceCtorEq];all_goals (first|exact l7 (by rw[LG b2 b3,C5 b1,List.take_of_length_le (by rw[l6];exact Nat.le_refl _)]) |exact l7 (by rw[←LJ (by intro hh;first|exact b2 hh.1|exact b3 hh.2),List.take_length]) |exact l7 (by cases w with|nil=>rfl|cons c r=>exact absurd (Nat.succ_pos _) b1))):p:=e
theorem Ry {gl:Nat→C}{M:Nat}{pu:Nat→List C→Option C}(hcx:CxOK (aD gl M pu))(w:List UInt8)(hw:w.length≤1000000):FC Tryd.prog gl 121 [.val (str w)] [] (.val (str (mE w))) []:=by
 replace hcx:=hcx.reN (M:=30)
 refine bI (cx:=aD gl 30 pu) (rs:=[.tmp 2]) rfl Tryd.func121 rfl rfl rfl (by simp only[List.length_cons,List.length_nil];decide) (by simp only[go_sem]) ?_
 simp only[cZ,go_sem]
 have b1:=True.intro
 have b2:=True.intro
 have b3:=True.intro
 have hy:=True.intro
 refine Tr.w hcx [] _ [] rfl rfl rfl ?_ fU
 refine s6 hcx [5] [1000005] _ [] rfl rfl rfl ?_ fU
 refine ae fun K1 hK1=>?_
 by_cases b1:0< w.length
 ·
  by_cases b2:UInt8.ofNat 97≤gt w 0
  ·
   by_cases b3:gt w 0≤UInt8.ofNat 122
   ·
    refine Tr.w hcx [] [some 6,some 7,some 8,some 9,some 10,some 11,some 12,some 13,some 14,some 15,some 16,some 17,some 18,some 19,some 20] [] rfl rfl rfl ?_ fU
    refine bn rfl ?_
    refine Tr.v hcx [] _ [] rfl rfl rfl ?_ fU
    refine hK1 _ ?_
    refine Tr.k [3] ?_
    refine Tr.w hcx [1000029] _ [] rfl rfl rfl ?_ fU
    exact Tr.ret nE
   refine Tr.w hcx [] [some 6,some 7,some 8,some 9,some 10,some 11,some 12,some 13,some 14,some 15,some 16,some 17,some 18,some 19,some 20] [] rfl rfl rfl ?_ fU
   refine aO rfl ?_
   refine Tr.skip ?_
   refine hK1 _ ?_
   refine Tr.w hcx [1000029] _ [] rfl rfl rfl ?_ fU
   exact Tr.ret nE
  refine Tr.w hcx [] [some 6,some 7,some 8,some 9,some 10,some 11,some 12,some 13,some 14,some 15,some 16,some 17,some 18,some 19,some 20] [] rfl rfl rfl ?_ fU
  refine aO rfl ?_
  refine Tr.skip ?_
  refine hK1 _ ?_
  refine Tr.w hcx [1000029] _ [] rfl rfl rfl ?_ fU
  exact Tr.ret nE
 refine Tr.w hcx [] [some 6,some 7,some 8,some 9,some 10,some 11,some 12,some 13,some 14,some 15,some 16,some 17,some 18,some 19,some 20] [] rfl rfl rfl ?_ fU
 refine aO rfl ?_
 refine Tr.skip ?_
 refine hK1 _ ?_
 refine Tr.w hcx [1000029] _ [] rfl rfl rfl ?_ fU
 exact Tr.ret nE
theorem eU {p:Prop}(e:p:=by intro KZ hZ;simp -implicitDefEqProofs (disch:=first|omega| (simp only[go_sem,lA,lD,lT,l6] <;>omega) |decide) only[go_sem,↓reduceIte,Nat.reduceEqDiff,reduceCtorEq,Nat.reduceLT,Nat.reduceBEq,Nat.reduceAdd,h121,hy];with_reducible exact hZ):p:=e
theorem jg {p:Prop}(e:p:=by simp -implicitDefEqProofs (disch:=first|omega| (simp only[go_sem,lA,lD,lT,l6] <;>omega) |decide) only[go_sem,↓reduceIte,Nat.reduceEqDiff,reduceCtorEq];all_goals (exact l7 (by unfold kY;simp_all))):p:=e
theorem Rz {gl:Nat→C}{M:Nat}{pu:Nat→List C→Option C}(hcx:CxOK (aD gl M pu))(h121:∀w:List UInt8,w.length≤1000000→pu 121 [.val (str w)] =some (.val (str (mE w))))(w:List UInt8)(n:Nat)(hw:w.length≤1000000)(hn:n≤1000000):FC Tryd.prog gl 101 [.val (str w),.val (nI n)] [] (.val (str (kY w n))) []:=by
 replace hcx:=hcx.reN (M:=33)
 refine bI (cx:=aD gl 33 pu) (rs:=[.tmp 4]) rfl Tryd.func101 rfl rfl rfl (by simp only[List.length_cons,List.length_nil];decide) (by simp only[go_sem]) ?_
 simp only[cZ,go_sem]
 have hy:=True.intro
 refine Tr.w hcx [] _ [] rfl rfl rfl ?_ eU
 refine ae fun K1 hK1=>?_
 refine Tr.w hcx [] _ [] rfl rfl rfl ?_ eU
 refine am ?_
 refine Tr.w hcx [1000007] _ [] rfl rfl rfl ?_ eU
 refine aw rfl (fun hc6=>?_) (fun hc6=>?_)
 ·
  refine Tr.w hcx [1000009] _ [] rfl rfl rfl ?_ eU
  exact Tr.ret jg
 refine Tr.w hcx [1000011] _ [] rfl rfl rfl ?_ eU
 refine aw rfl (fun hc10=>?_) (fun hc10=>?_)
 ·
  refine Tr.w hcx [1000013] _ [] rfl rfl rfl ?_ eU
  exact Tr.ret jg
 refine Tr.w hcx [1000015] _ [] rfl rfl rfl ?_ eU
 refine aw rfl (fun hc14=>?_) (fun hc14=>?_)
 ·
  refine Tr.w hcx [1000017] _ [] rfl rfl rfl ?_ eU
  exact Tr.ret jg
 refine Tr.w hcx [1000019] _ [] rfl rfl rfl ?_ eU
 refine aw rfl (fun hc18=>?_) (fun hc18=>?_)
 ·
  refine Tr.w hcx [1000022] _ [] rfl rfl rfl ?_ eU
  exact Tr.ret jg
 refine Tr.w hcx [1000024] _ [] rfl rfl rfl ?_ eU
 refine aw rfl (fun hc23=>?_) (fun hc23=>?_)
 ·
  refine Tr.w hcx [1000027] _ [] rfl rfl rfl ?_ eU
  exact Tr.ret jg
 refine Tr.w hcx [1000029] _ [] rfl rfl rfl ?_ eU
 refine aw rfl (fun hc28=>?_) (fun hc28=>?_)
 ·
  refine Tr.w hcx [1000031] _ [] rfl rfl rfl ?_ eU
  exact Tr.ret jg
 refine Tr.skip ?_
 refine hK1 _ ?_
 refine Tr.w hcx [1000032] _ [] rfl rfl rfl ?_ eU
 exact Tr.ret jg
theorem fE {p:Prop}(e:p:=by intro KZ hZ;simp -implicitDefEqProofs (disch:=first|omega| (simp only[go_sem,lA,lD,lT,hb1,tT] <;>omega) |decide) only[go_sem,↓reduceIte,Nat.reduceEqDiff,reduceCtorEq,Nat.reduceLT,Nat.reduceBEq,Nat.reduceAdd,h65',h101,C6,hy];with_reducible exact hZ):p:=e
theorem LL {p:Prop}(e:p:=by simp -implicitDefEqProofs (disch:=first|omega| (simp only[go_sem,lA,lD,lT,hb1,tT] <;>omega) |decide) only[go_sem,↓reduceIte,Nat.reduceEqDiff,reduceCtorEq];all_goals (rfl)):p:=e
theorem Uw {gl:Nat→C}{M:Nat}{pu:Nat→List C→Option C}(hcx:CxOK (aD gl M pu))(h65:∀ (l:List Int) (i m:Nat),LI l→i≤1000000∧0< m∧m≤9223372036854775807→pu 65 [sl iC .no l,.val (nI i),.val (nI m)] =some (.val (nI (cK l i m))))(h101:∀ (w:List UInt8) (n:Nat),w.length≤1000000∧n≤1000000→pu 101 [.val (str w),.val (nI n)] =some (.val (str (kY w n))))(l:List Int)(k:Nat)(hl:LI l)(hk:k≤1000):FC Tryd.prog gl 66 [sl iC .no l,.val (nI k)] [] (.val (str (fR l k))) []:=by
 replace hcx:=hcx.reN (M:=41)
 refine bI (cx:=aD gl 41 pu) (rs:=[.tmp 4]) rfl Tryd.func66 rfl rfl rfl (by simp only[List.length_cons,List.length_nil];decide) (by simp only[go_sem]) ?_
 simp only[cZ,go_sem]
 have hy:=True.intro
 have h65':=fun i m=>h65 l i m hl
 have hb0:=er l k (m:=9) (by decide)
 have hb1:=True.intro
 refine Tr.w hcx [] _ [] rfl rfl rfl ?_ fE
 refine Tr.w hcx [1000010] _ [] rfl rfl rfl ?_ fE
 refine Tr.w hcx [] _ [] rfl rfl rfl ?_ fE
 refine ae fun K1 hK1=>?_
 refine Tr.w hcx [] _ [] rfl rfl rfl ?_ fE
 refine Tr.k [0,1,5,6,7] ?_
 refine am ?_
 refine aV (α:=Nat) (fun a=>[(0,?v0_1),(1,?v1_1),(5,?v5_1),(6,.val (str (eE l k a))),(7,.val (nI a))]) (fun a=>?h_1) (fun a=>a≤1+cK l k 9) (fun a=>1+cK l k 9 - a) (0) ?_ ?le_1 ?hh_1 ?bd_1
 case hh_1=>exact rfl
 case le_1=>exact LT
 . omega
 rintro i hi
 have hb1:=BL l k i
 have hb2:=er l (k+1+i) (m:=108) (by decide)
 have hb3:=LK (cK l (k+1+i) 108 % 9)
 have hb4:=C7 (gt wlist (cK l (k+1+i) 108 % 9)) (cK l (k+1+i) 108 / 9)
 have hb5:=Nat.mod_lt (cK l (k+1+i) 108) (show 9>0 by decide)
 refine ae fun K2 hK2=>?_
 refine Tr.w hcx [] _ [] rfl rfl rfl ?_ fE
 refine aw rfl (fun hc16=>?_) (fun hc16=>?_)
 ·
  refine Tr.skip ?_
  refine hK2 _ ?_
  refine ae fun K3 hK3=>?_
  refine am ?_
  refine Tr.w hcx [1000024] _ [] rfl rfl rfl ?_ fE
  refine Tr.k [0,1,5,6,7,8] ?_
  refine Tr.w hcx [1000032] _ [] rfl rfl rfl ?_ fE
  refine ae fun K4 hK4=>?_
  refine Tr.w hcx [] _ [] rfl rfl rfl ?_ fE
  refine aw rfl (fun hc34=>?_) (fun hc34=>?_)
  ·
   refine Tr.v hcx [1000036] _ [] rfl rfl rfl ?_ fE
   refine hK4 _ ?_
   refine Tr.v hcx [1000039] _ [] rfl rfl rfl ?_ fE
   refine hK3 _ ?_
   refine Tr.k [0,1,5,6,7] ?_
   refine Tr.v hcx [1000018] _ [] rfl rfl rfl ?_ fE
   refine ⟨i+1,⟨by omega,O1⟩,?_,rfl⟩
   (simp only[bQ,bl,↓bF,↓reduceIte,Nat.reduceEqDiff,ba,br,bc,bu,bv,and_true,true_and];all_goals (repeat' first|exact CLe.refl _|exact True.intro| (refine bH ?_;first|rfl| (simp only[List.take_zero];done)) |exact cU (by omega) |exact cM (by omega) |exact cN (by omega) |exact cO (by omega) |with_reducible apply And.intro))
   all_goals first| (rw[wd l k i hc34];exact CLe.refl _) | (rw[we l k i hc34];exact CLe.refl _)
  refine Tr.skip ?_
  refine hK4 _ ?_
  refine Tr.v hcx [1000039] _ [] rfl rfl rfl ?_ fE
  refine hK3 _ ?_
  refine Tr.v hcx [1000018] _ [] rfl rfl rfl ?_ fE
  refine ⟨i+1,⟨by omega,O1⟩,?_,rfl⟩
  (simp only[bQ,bl,↓bF,↓reduceIte,Nat.reduceEqDiff,ba,br,bc,bu,bv,and_true,true_and];all_goals (repeat' first|exact CLe.refl _|exact True.intro| (refine bH ?_;first|rfl| (simp only[List.take_zero];done)) |exact cU (by omega) |exact cM (by omega) |exact cN (by omega) |exact cO (by omega) |with_reducible apply And.intro))
  all_goals first| (rw[wd l k i hc34];exact CLe.refl _) | (rw[we l k i hc34];exact CLe.refl _)
 obtain rfl:i=1+cK l k 9:=by omega
 refine Tr.exit ?_
 refine hK1 _ ?_
 refine Tr.w hcx [1000040] _ [] rfl rfl rfl ?_ fE
 exact Tr.ret LL
end Go.Sx
namespace Go.Sx
open Go.RowKit Go.Proofs
theorem nz {β:Type}(F:Nat→List β)(v:Nat): ((List.range (v+1)).flatMap F).length= ((List.range v).flatMap F).length+(F v).length:=by
 rw[List.range_succ,List.flatMap_append,List.length_append];simp
theorem yR {β:Type}(F:Nat→List β)(v:Nat):∀d,((List.range v).flatMap F).length≤((List.range (v+d)).flatMap F).length
 |0=>Nat.le_refl _
 |d+1=>Nat.le_trans (yR F v d) (by rw[←Nat.add_assoc,nz];omega)
theorem B3 {β:Type}[Inhabited β](F:Nat→List β)(v j:Nat)(hj:j< (F v).length):∀d,gt ((List.range (v+1+d)).flatMap F) (((List.range v).flatMap F).length+j) =gt (F v) j
 |0=>by
  rw[Nat.add_zero,List.range_succ,List.flatMap_append]
  simp only[gt,List.getD]
  rw[List.getElem?_append_right (by omega),Nat.add_sub_cancel_left];simp
 |d+1=>by
  rw[←Nat.add_assoc,List.range_succ,List.flatMap_append]
  have h:=B3 F v j hj d
  have h1:=yR F (v+1) d
  rw[nz] at h1
  simp only[gt,List.getD] at h ⊢
  rw[List.getElem?_append_left (by omega)];exact h
theorem B4 {β:Type}[Inhabited β](F:Nat→List β)(n v j:Nat)(hv:v< n)(hj:j< (F v).length):gt ((List.range n).flatMap F) (((List.range v).flatMap F).length+j) =gt (F v) j∧((List.range v).flatMap F).length+j< ((List.range n).flatMap F).length:=by
 obtain ⟨d,rfl⟩:∃d,n=v+1+d:=⟨n - (v+1),by omega⟩
 refine ⟨B3 F v j hj d,?_⟩
 have:=yR F (v+1) d
 rw[nz] at this;omega
abbrev Rd:=(Nat×Nat×Nat)×aI
def k7 (v a:Nat)(l:List aI):List Rd:=(List.range l.length).map fun i=>((v,a,i),gt l i)
def vc (v:Nat)(l:ct):List Rd:=(List.range l.length).flatMap fun a=>k7 v a (gt l a).2
def aS (w:ah):List Rd:=(List.range w.length).flatMap fun v=>vc v (gt w v)
def oA (v:Nat)(l:ct)(a:Nat):Nat:=((List.range a).flatMap fun a=>k7 v a (gt l a).2).length
def oV (w:ah)(v:Nat):Nat:=((List.range v).flatMap fun v=>vc v (gt w v)).length
theorem rH (v a:Nat)(l:List aI): (k7 v a l).length=l.length:=by simp[k7]
theorem B5 (v a:Nat)(l:List aI)(i:Nat)(h:i< l.length):gt (k7 v a l) i= ((v,a,i),gt l i):=by
 simp[k7,gt,List.getD,List.getElem?_map,List.getElem?_range h]
theorem Pf (v:Nat)(l:ct):oA v l 0=0:=rfl
theorem Pg (w:ah):oV w 0=0:=rfl
theorem FV (v:Nat)(l:ct)(a:Nat):oA v l (a+1) =oA v l a+(gt l a).2.length:=by unfold oA;rw[nz,rH]
theorem FW (v:Nat)(l:ct):oA v l l.length= (vc v l).length:=rfl
theorem FY (w:ah)(v:Nat):oV w (v+1) =oV w v+(vc v (gt w v)).length:=by unfold oV;rw[nz]
theorem F6 (w:ah):oV w w.length= (aS w).length:=rfl
theorem lX (w:ah)(v a i:Nat)(hv:v< w.length)(ha:a< (gt w v).length)(hi:i< (gt (gt w v) a).2.length):
 gt (aS w) (oV w v+(oA v (gt w v) a+i)) = ((v,a,i),gt (gt (gt w v) a).2 i)∧oV w v+(oA v (gt w v) a+i) < (aS w).length:=by
 have h1:=B4 (fun a=>k7 v a (gt (gt w v) a).2) (gt w v).length a i ha (by rw[rH];exact hi)
 have h2:=B4 (fun v=>vc v (gt w v)) w.length v (oA v (gt w v) a+i) hv h1.2
 refine ⟨h2.1.trans (h1.1.trans (B5 _ _ _ _ hi)),h2.2⟩
end Go.Sx
