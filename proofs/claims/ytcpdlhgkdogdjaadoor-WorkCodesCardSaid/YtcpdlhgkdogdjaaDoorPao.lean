/-
   And what follows.
-/
import Derived.DeepKeys4
import Derived.MapViews
import Derived.Test.YtcpdlhgkdogdjaaDoorPan
import Derived.Test.YtcpdlhgkdogdjaaDoorPaj
import Derived.Test.YtcpdlhgkdogdjaaDoorPal
import Derived.Test.YtcpdlhgkdogdjaaDoorPak
set_option linter.unusedSimpArgs false
set_option linter.unusedVariables false
namespace Go.Sx
theorem vO (b:List UInt8):ab b= (0,0,2)∨ab b= (0,0,3)∨((ab b).2.2=0∧1≤(ab b).2.1∧(ab b).2.1≤9∧(ab b).2.1≤b.length∧ -9223372036854775808≤(ab b).1∧(ab b).1≤9223372036854775807):=by
 rcases b with _| ⟨x,r⟩
 . exact .inr (.inl rfl)
 . obtain ⟨k,hk⟩:∃k,j8 x=k:=⟨_,rfl⟩
   by_cases h1:8< k
   . exact .inl (tj hk h1)
   by_cases h2: (x::r).length≤k
   . exact .inr (.inl (tk hk h1 h2))
   by_cases h3:0< k∧gt (x::r) 1 ^^^ am x=0
   . exact .inl (oc hk h1 h2 h3.1 h3.2)
   by_cases h4:9223372036854775808≤bF (am x) (r.take k)
   . exact .inl (tl hk h1 h2 h3 h4)
   . right;right
     by_cases h5:x< 128
     . rw[tn hk h1 h2 h3 h4 h5];exact ⟨rfl,Nat.le_add_left 1 k,by show k+1≤9;omega,by show k+1≤(x::r).length;omega,by show _≤(-1 - (bF (am x) (r.take k):Int));omega,by show (-1 - (bF (am x) (r.take k):Int))≤_;omega⟩
     . rw[tp hk h1 h2 h3 h4 h5];exact ⟨rfl,Nat.le_add_left 1 k,by show k+1≤9;omega,by show k+1≤(x::r).length;omega,by show _≤((bF (am x) (r.take k):Int));omega,by show ((bF (am x) (r.take k):Int))≤_;omega⟩
theorem Aa {b:List UInt8}(h: (ab b).2.2=0):1≤(ab b).2.1∧(ab b).2.1≤9∧(ab b).2.1≤b.length∧ -9223372036854775808≤(ab b).1∧(ab b).1≤9223372036854775807:=by
 rcases vO b with e|e|e
 . rw[e] at h;cases h
 . rw[e] at h;cases h
 . exact e.2
theorem du (b:List UInt8): (ab b).2.1≤b.length∧(ab b).2.1≤9∧(ab b).2.2≤3∧ -9223372036854775808≤(ab b).1∧(ab b).1≤9223372036854775807:=by
 rcases vO b with e|e|e
 . rw[e];exact ⟨Nat.zero_le _,by decide,by decide,by decide,by decide⟩
 . rw[e];exact ⟨Nat.zero_le _,by decide,by decide,by decide,by decide⟩
 . exact ⟨e.2.2.2.1,e.2.2.1,by omega,e.2.2.2.2⟩
def b9 (b:List UInt8)(s:Nat):Nat:=if (ab b).2.2≠0 then (ab b).2.2 else if (ab b).1< 0 then 2 else if (b.length - (ab b).2.1) / s< (ab b).1.toNat then 3 else 0
def cn (b:List UInt8):Nat:=(ab b).1.toNat
def ca (b:List UInt8):Nat:=(ab b).2.1
theorem cnt_1 {b:List UInt8}{s:Nat}(h: (ab b).2.2≠0):b9 b s= (ab b).2.2:=by unfold b9;rw[if_pos h]
theorem cnt_2 {b:List UInt8}{s:Nat}(h:¬ (ab b).2.2≠0)(h2: (ab b).1< 0):b9 b s=2:=by unfold b9;rw[if_neg h,if_pos h2]
theorem Lk {b:List UInt8}{s:Nat}(h:¬ (ab b).2.2≠0)(h2:¬ (ab b).1< 0)(h3: (b.length - (ab b).2.1) / s< (ab b).1.toNat):b9 b s=3:=by unfold b9;rw[if_neg h,if_neg h2,if_pos h3]
theorem Ll {b:List UInt8}{s:Nat}(h:¬ (ab b).2.2≠0)(h2:¬ (ab b).1< 0)(h3:¬ (b.length - (ab b).2.1) / s< (ab b).1.toNat):b9 b s=0:=by unfold b9;rw[if_neg h,if_neg h2,if_neg h3]
theorem od (b:List UInt8)(s:Nat):b9 b s≤3:=by
 have:=du b;unfold b9;split
 . omega
 . split
   . decide
   . split<;>decide
theorem k9 {b:List UInt8}{s:Nat}(hs:0< s)(h:b9 b s=0): (ab b).2.2=0∧(ab b).1= (cn b:Int)∧1≤ca b∧ca b≤9∧ca b≤b.length∧cn b*s≤b.length - ca b∧cn b≤b.length:=by
 unfold b9 at h;split at h
 . rename_i h1;exact absurd h h1
 . rename_i h1
   have h1':=Classical.not_not.1 h1;have h5:=Aa h1';split at h
   . cases h
   . rename_i h2
     split at h
     . cases h
     . rename_i h3
       have h4:cn b*s≤b.length - ca b:=(Nat.le_div_iff_mul_le hs).1 (Nat.le_of_not_lt h3);have h6:cn b*1≤cn b*s:=Nat.mul_le_mul_left _ hs;refine ⟨h1',?_,h5.1,h5.2.1,h5.2.2.1,h4,by omega⟩;unfold cn;omega
def bJ (b:List UInt8):List UInt8×Nat×Nat:=if b9 b 1=0 then ((b.drop (ca b)).take (cn b),ca b+cn b,0) else ([],0,b9 b 1)
theorem getB_1 {b:List UInt8}(h:b9 b 1=0):bJ b= ((b.drop (ca b)).take (cn b),ca b+cn b,0):=by unfold bJ;rw[if_pos h]
theorem getB_2 {b:List UInt8}(h:¬b9 b 1=0):bJ b= ([],0,b9 b 1):=by unfold bJ;rw[if_neg h]
theorem iZ (b:List UInt8): (bJ b).2.1≤b.length∧(bJ b).1.length≤b.length∧(bJ b).2.2≤3∧((bJ b).2.2=0→1≤(bJ b).2.1∧(bJ b).1.length+1≤(bJ b).2.1):=by
 have h3:=od b 1;by_cases h:b9 b 1=0
 . have h1:=k9 (by decide) h
   rw[getB_1 h];refine ⟨by show ca b+cn b≤_;omega,by show (List.take (cn b) (b.drop (ca b))).length≤_;rw[List.length_take,List.length_drop];omega,Nat.zero_le _,fun _=>⟨by show 1≤ca b+cn b;omega,?_⟩⟩;show (List.take (cn b) (b.drop (ca b))).length+1≤ca b+cn b;rw[List.length_take];omega
 . rw[getB_2 h];exact ⟨Nat.zero_le _,Nat.zero_le _,h3,fun h'=>absurd h' h⟩
def fm {α:Type}(g:List UInt8→α×Nat×Nat)(b:List UInt8):Nat→Nat→List α→List α×Nat×Nat
 |0,a,l=>(l,a,0)
 |n+1,a,l=>if (g (b.drop a)).2.2≠0 then ([],0,(g (b.drop a)).2.2) else fm g b n (a+(g (b.drop a)).2.1) (l++[(g (b.drop a)).1])
theorem Lm {α:Type}(g:List UInt8→α×Nat×Nat)(b:List UInt8)(a:Nat)(l:List α):fm g b 0 a l= (l,a,0):=rfl
theorem Ln {α:Type}{g:List UInt8→α×Nat×Nat}{b:List UInt8}{n a:Nat}{l:List α}(hn:0< n)(h: (g (b.drop a)).2.2≠0):fm g b n a l= ([],0,(g (b.drop a)).2.2):=by
 obtain ⟨m,rfl⟩:∃m,n=m+1:=⟨n - 1,by omega⟩;unfold fm;rw[if_pos h]
theorem Lo {α:Type}{g:List UInt8→α×Nat×Nat}{b:List UInt8}{n i a:Nat}{l:List α}(hn:i< n)(h: (g (b.drop a)).2.2=0):fm g b (n - i) a l=fm g b (n - (i+1)) (a+(g (b.drop a)).2.1) (l++[(g (b.drop a)).1]):=by
 obtain ⟨m,hm⟩:∃m,n - i=m+1:=⟨n - i - 1,by omega⟩;rw[hm,show n - (i+1) =m by omega]
 conv=>lhs;unfold fm
 rw[if_neg (not_not_intro h)]
def aS {α:Type}(g:List UInt8→α×Nat×Nat)(s:Nat)(b:List UInt8):List α×Nat×Nat:=if b9 b s=0 then fm g b (cn b) (ca b) [] else ([],0,b9 b s)
theorem oe {α:Type}{g:List UInt8→α×Nat×Nat}{s:Nat}{b:List UInt8}(h:b9 b s=0):aS g s b=fm g b (cn b) (ca b) []:=by unfold aS;rw[if_pos h]
theorem tq {α:Type}{g:List UInt8→α×Nat×Nat}{s:Nat}{b:List UInt8}(h:¬b9 b s=0):aS g s b= ([],0,b9 b s):=by unfold aS;rw[if_neg h]
end Go.Sx
namespace Go.Sx
theorem cnt_3' {b:List UInt8}{s:Nat}(hs:0< s)(h:¬ (ab b).2.2≠0)(h2:¬ (ab b).1< 0)(h3:b.length< (ab b).1.toNat∨b.length - (ab b).2.1< (ab b).1.toNat*s):b9 b s=3:=by
 refine Lk h h2 ((Nat.div_lt_iff_lt_mul hs).2 ?_);rcases h3 with h3|h3
 . have: (ab b).1.toNat*1≤(ab b).1.toNat*s:=Nat.mul_le_mul_left _ hs
   omega
 . exact h3
theorem cnt_0' {b:List UInt8}{s:Nat}(hs:0< s)(h:¬ (ab b).2.2≠0)(h2:¬ (ab b).1< 0)(h3:¬b.length - (ab b).2.1< (ab b).1.toNat*s):b9 b s=0:=by
 refine Ll h h2 fun h4=>h3 ((Nat.div_lt_iff_lt_mul hs).1 h4)
theorem BY {n:Int}(h:¬n< 0):Value.int .i64 n=nI n.toNat:=by
 show _=Value.int .i64 (n.toNat:Int);rw[Int.toNat_of_nonneg (by omega)]
end Go.Sx
namespace Go.Sx
end Go.Sx
namespace Go.Sx
open Go.RowKit Go.Proofs
set_option maxRecDepth 100000
set_option maxHeartbeats 8000000
theorem la {p:Prop}(e:p:=by intro KZ hZ;simp -implicitDefEqProofs (disch:=first|omega| (simp only[go_sem,lA,lD,lT,hb1] <;>omega) |decide) only[go_sem,↓reduceIte,Nat.reduceEqDiff,reduceCtorEq,Nat.reduceLT,Nat.reduceBEq,Nat.reduceAdd,h49,h49n,hy];exact hZ):p:=e
theorem acn {gl:Nat→C}{M:Nat}{pu:Nat→List C→Option C}(hcx:CxOK (ax gl M pu))(h49:∀n:Int,-9223372036854775808≤n∧n≤9223372036854775807→pu 49 [.val (.int .i64 n)] =some (sl bC (.own 1) (bu n)))(l:List Int)(hl:l.length< 1099511627776)(hr:∀x∈l,-9223372036854775808≤x∧x≤9223372036854775807):FC Tryd.prog gl 78 [sl iC .no l] [] (sl bC (.own 1) (eQ l)) []:=by
 replace hcx:=hcx.reN (M:=21);refine aH (cx:=ax gl 21 pu) (rs:=[.tmp 2]) rfl Tryd.func78 rfl rfl rfl (by simp only[List.length_cons,List.length_nil];decide) (by simp only[go_sem]) ?_;simp only[bj,go_sem];have hy:=True.intro;have h49n:∀m:Nat,m< 9223372036854775808→pu 49 [.val (nI m)] =some (sl bC (.own 1) (bu m)):=fun m h=>h49 m (by omega);have hk8:=gy l.length (by omega);have hb1:=True.intro;refine Tr.w hcx [] _ [] rfl rfl rfl ?_ la;refine Tr.w hcx [1000008] _ [] rfl rfl rfl ?_ la;refine aa fun K1 hK1=>?_;refine Tr.w hcx [] _ [] rfl rfl rfl ?_ la;refine Tr.k [3,9,10,11] ?_;refine Tr.blk ?_;refine ao (α:=Nat) (fun a=>[(3,sl bC (.own 1) (bu l.length++(l.take a).flatMap bu)),(9,?v9_1),(10,?v10_1),(11,.val (nI a))]) (fun a=>?h_1) (fun a=>a≤l.length) (fun a=>l.length - a) (0) ?_ ?le_1 ?hh_1 ?bd_1
 case hh_1=>exact rfl
 case le_1=>(simp only[aX,aK,↓aT,↓reduceIte,Nat.reduceEqDiff,aE,aM,aF,aN,aO,and_true,true_and];all_goals (repeat' first|exact CLe.refl _|exact True.intro| (refine ay ?_;first|rfl| (simp only[List.take_zero];done)) |exact aV (by omega) |exact aB (by omega) |exact aJ (by omega) |exact aP (by omega) |with_reducible apply And.intro));all_goals (exact fE (by simp))
 . omega
 rintro i hi;have hb0:=qT l hr i hi;refine Tr.w hcx [] _ [] rfl rfl rfl ?_ la;refine aa fun K2 hK2=>?_;refine af rfl (fun hc12=>?_) (fun hc12=>?_)
 ·
  have hb1:=hr _ (xZ l i hc12);have hb2:=gG _ hb1;refine Tr.skip ?_;refine hK2 _ ?_;refine aa fun K3 hK3=>?_;refine Tr.blk ?_;refine Tr.w hcx [1000014] _ [] rfl rfl rfl ?_ la;refine Tr.v hcx [15,1000018] _ [] rfl rfl rfl ?_ la;refine hK3 _ ?_;refine Tr.v hcx [] _ [] rfl rfl rfl ?_ la;refine ⟨i+1,⟨by omega,O1⟩,?_,rfl⟩
  (simp only[aX,aK,↓aT,↓reduceIte,Nat.reduceEqDiff,aE,aM,aF,aN,aO,and_true,true_and];all_goals (repeat' first|exact CLe.refl _|exact True.intro| (refine ay ?_;first|rfl| (simp only[List.take_zero];done)) |exact aV (by omega) |exact aB (by omega) |exact aJ (by omega) |exact aP (by omega) |with_reducible apply And.intro))
  all_goals (refine fE ?_;rw[←qS bu l i hc12];simp)
 obtain rfl:i=l.length:=by omega
 refine Tr.exit ?_;refine hK1 _ ?_;refine Tr.w hcx [1000020] _ [] rfl rfl rfl ?_ la;exact Tr.ret ST
theorem kA {p:Prop}(e:p:=by intro KZ hZ;simp -implicitDefEqProofs (disch:=first|omega| (simp only[go_sem,lA,lD,lT,hb1] <;>omega) |decide) only[go_sem,↓reduceIte,Nat.reduceEqDiff,reduceCtorEq,Nat.reduceLT,Nat.reduceBEq,Nat.reduceAdd,h84,h84n,hy];exact hZ):p:=e
theorem YQ {gl:Nat→C}{M:Nat}{pu:Nat→List C→Option C}(hcx:CxOK (ax gl M pu))(h84:∀n:Int,-9223372036854775808≤n∧n≤9223372036854775807→pu 84 [.val (.int .i64 n)] =some (sl bC (.own 1) (bu n)))(l:List Int)(hl:l.length< 1099511627776)(hr:∀x∈l,-9223372036854775808≤x∧x≤9223372036854775807):FC Tryd.prog gl 113 [sl iC .no l] [] (sl bC (.own 1) (eQ l)) []:=by
 replace hcx:=hcx.reN (M:=22);refine aH (cx:=ax gl 22 pu) (rs:=[.tmp 2]) rfl Tryd.func113 rfl rfl rfl (by simp only[List.length_cons,List.length_nil];decide) (by simp only[go_sem]) ?_;simp only[bj,go_sem];have hy:=True.intro;have h84n:∀m:Nat,m< 9223372036854775808→pu 84 [.val (nI m)] =some (sl bC (.own 1) (bu m)):=fun m h=>h84 m (by omega);have hk8:=gy l.length (by omega);have hb1:=True.intro;refine Tr.w hcx [] _ [] rfl rfl rfl ?_ kA;refine Tr.w hcx [1000007] _ [] rfl rfl rfl ?_ kA;refine aa fun K1 hK1=>?_;refine Tr.w hcx [] _ [] rfl rfl rfl ?_ kA;refine Tr.k [0,3,4] ?_;refine Tr.blk ?_;refine ao (α:=Nat) (fun a=>[(0,?v0_1),(3,sl bC (.own 1) (bu l.length++(l.take a).flatMap bu)),(4,.val (nI a))]) (fun a=>?h_1) (fun a=>a≤l.length) (fun a=>l.length - a) (0) ?_ ?le_1 ?hh_1 ?bd_1
 case hh_1=>exact rfl
 case le_1=>(simp only[aX,aK,↓aT,↓reduceIte,Nat.reduceEqDiff,aE,aM,aF,aN,aO,and_true,true_and];all_goals (repeat' first|exact CLe.refl _|exact True.intro| (refine ay ?_;first|rfl| (simp only[List.take_zero];done)) |exact aV (by omega) |exact aB (by omega) |exact aJ (by omega) |exact aP (by omega) |with_reducible apply And.intro));all_goals (exact fE (by simp))
 . omega
 rintro i hi;have hb0:=qT l hr i hi;refine aa fun K2 hK2=>?_;refine Tr.w hcx [] _ [] rfl rfl rfl ?_ kA;refine af rfl (fun hc11=>?_) (fun hc11=>?_)
 ·
  have hb1:=hr _ (xZ l i hc11);have hb2:=gG _ hb1;refine Tr.skip ?_;refine hK2 _ ?_;refine aa fun K3 hK3=>?_;refine Tr.blk ?_;refine Tr.v hcx [14,1000020] _ [] rfl rfl rfl ?_ kA;refine hK3 _ ?_;refine Tr.v hcx [1000013] _ [] rfl rfl rfl ?_ kA;refine ⟨i+1,⟨by omega,O1⟩,?_,rfl⟩
  (simp only[aX,aK,↓aT,↓reduceIte,Nat.reduceEqDiff,aE,aM,aF,aN,aO,and_true,true_and];all_goals (repeat' first|exact CLe.refl _|exact True.intro| (refine ay ?_;first|rfl| (simp only[List.take_zero];done)) |exact aV (by omega) |exact aB (by omega) |exact aJ (by omega) |exact aP (by omega) |with_reducible apply And.intro))
  all_goals (refine fE ?_;rw[←qS bu l i hc11];simp)
 obtain rfl:i=l.length:=by omega
 refine Tr.exit ?_;refine hK1 _ ?_;refine Tr.w hcx [1000021] _ [] rfl rfl rfl ?_ kA;exact Tr.ret ST
theorem Ty {p:Prop}(e:p:=by intro KZ hZ;simp -implicitDefEqProofs (disch:=first|omega| (simp only[go_sem,lA,lD,lT] <;>omega) |decide) only[go_sem,↓reduceIte,Nat.reduceEqDiff,reduceCtorEq,Nat.reduceLT,Nat.reduceBEq,Nat.reduceAdd,hy];refine And.intro ?_ hZ;exact rfl):p:=e
theorem ya {p:Prop}(e:p:=by simp -implicitDefEqProofs (disch:=first|omega| (simp only[go_sem,lA,lD,lT] <;>omega) |decide) only[go_sem,↓reduceIte,Nat.reduceEqDiff,reduceCtorEq];all_goals (first|rw[OH hc10] |rw[Tv hc25] |rw[Tw hc14 (Classical.not_not.1 hc10) hA])):p:=e
theorem aco {gl:Nat→C}{M:Nat}{pu:Nat→List C→Option C}(hcx:CxOK (ax gl M pu))(x y:List UInt8)(hx:x.length< 9223372036854775807):FC Tryd.prog gl 45 [sl bC .no x,sl bC .no y] [] (.val (.bool (decide (x=y)))) []:=by
 replace hcx:=hcx.reN (M:=26);refine aH (cx:=ax gl 26 pu) (rs:=[.tmp 4]) rfl Tryd.func45 rfl rfl rfl (by simp only[List.length_cons,List.length_nil];decide) (by simp only[go_sem]) ?_;simp only[bj,go_sem];have hy:=True.intro;refine Tr.w hcx [] _ [] rfl rfl rfl ?_ bz;refine aa fun K1 hK1=>?_;refine Tr.w hcx [] _ [] rfl rfl rfl ?_ bz;refine af rfl (fun hc10=>?_) (fun hc10=>?_)
 ·
  refine Tr.w hcx [] _ [] rfl rfl rfl ?_ bz;exact Tr.ret ya
 have hll:x.length=y.length:=Classical.not_not.1 hc10;refine Tr.skip ?_;refine hK1 _ ?_;refine aa fun K2 hK2=>?_;refine Tr.w hcx [] _ [] rfl rfl rfl ?_ bz;refine Tr.k [0,1,5] ?_;refine Tr.blk ?_;refine ao (α:=Nat) (fun a=>[(0,?v0_1),(1,?v1_1),(5,.val (nI a))]) (fun a=>?h_1) (fun a=>a≤x.length∧x.take a=y.take a) (fun a=>x.length - a) (0) ?_ ?le_1 ?hh_1 ?bd_1
 case hh_1=>exact rfl
 case le_1=>exact LT
 . exact ⟨by omega,rfl⟩
 rintro i ⟨hi,hA⟩;refine aa fun K3 hK3=>?_;refine Tr.w hcx [] _ [] rfl rfl rfl ?_ bz;refine af rfl (fun hc14=>?_) (fun hc14=>?_)
 ·
  refine Tr.skip ?_;refine hK3 _ ?_;refine aa fun K4 hK4=>?_;refine Tr.blk ?_;refine cf hcx bM [] _ [] rfl rfl rfl rfl ?_ Ty;refine af rfl (fun hc25=>?_) (fun hc25=>?_)
  ·
   refine Tr.w hcx [] _ [] rfl rfl rfl ?_ bz;exact Tr.ret ya
  refine Tr.skip ?_;refine hK4 _ ?_;refine Tr.v hcx [1000016] _ [] rfl rfl rfl ?_ bz;exact ⟨i+1,⟨⟨by omega,BU hc14 (Classical.not_not.1 hc10) hA (Classical.not_not.1 hc25)⟩,O1⟩,LT,rfl⟩
 refine Tr.exit ?_;refine hK2 _ ?_;refine Tr.w hcx [] _ [] rfl rfl rfl ?_ bz;exact Tr.ret ya
end Go.Sx
namespace Go.Sx
end Go.Sx
namespace Go.Sx
open Go.RowKit Go.Proofs
theorem Ab {α:Type}(enc:α→List UInt8)(s:Nat):∀ (l:List α),(∀x∈l,s≤(enc x).length)→l.length*s≤(l.flatMap enc).length
 | [],_=>by simp
 |x::l,h=>by
  have:=Ab enc s l (fun y hy=>h y (by simp[hy]));have:=h x (by simp);rw[List.length_cons,List.flatMap_cons,List.length_append,Nat.succ_mul];omega
theorem uK (n:Int):1≤(bu n).length:=by unfold bu;split<;>simp
theorem x8 {b:List UInt8}(h: (ab b).2.2=0):bu (ab b).1=b.take (ab b).2.1:=by
 rcases b with _| ⟨x,r⟩
 . cases h
 . obtain ⟨k,hk⟩:∃k,j8 x=k:=⟨_,rfl⟩
   by_cases h1:8< k
   . rw[tj hk h1] at h;cases h
   by_cases h2: (x::r).length≤k
   . rw[tk hk h1 h2] at h;cases h
   by_cases h3:0< k∧gt (x::r) 1 ^^^ am x=0
   . rw[oc hk h1 h2 h3.1 h3.2] at h;cases h
   by_cases h4:9223372036854775808≤bF (am x) (r.take k)
   . rw[tl hk h1 h2 h3 h4] at h;cases h
   have hr:=(x7 rfl hk (by omega) (by omega):_↔_).2 h3;have hx:=BX x;by_cases h5:x< 128
   . rw[tn hk h1 h2 h3 h4 h5]
     rw[hx] at h5;rw[if_pos h5] at hr;exact hr
   . rw[tp hk h1 h2 h3 h4 h5]
     rw[hx] at h5;rw[if_neg h5] at hr;exact hr
theorem OK {b:List UInt8}{s:Nat}(hs:0< s)(h:b9 b s=0):bu (cn b) =b.take (ca b):=by
 have h1:=k9 hs h;rw[←h1.2.1];exact x8 h1.1
theorem E4 {α:Type}(b:List α)(i j:Nat):b.take (i+j) =b.take i++(b.drop i).take j:=List.take_add
theorem Ac {α:Type}(g:List UInt8→α×Nat×Nat)(enc:α→List UInt8)(s:Nat)(b:List UInt8)
 (hg:∀t,s≤t.length→(g t).2.2=0→enc (g t).1=t.take (g t).2.1∧(g t).2.1≤t.length∧(s=0∨(g t).2.1=s)):
 ∀ (n a:Nat)(l:List α),a≤b.length→n*s≤b.length - a→(fm g b n a l).2.2=0→
   ∃m,(fm g b n a l).1=l++m∧m.length=n∧b.take (fm g b n a l).2.1=b.take a++m.flatMap enc∧(fm g b n a l).2.1≤b.length
 |0,a,l,ha,_,_=>⟨[],by simp[fm],rfl,by simp[fm],by simpa[fm] using ha⟩
 |n+1,a,l,ha,hn,h=>by
  rw[Nat.succ_mul] at hn;by_cases he: (g (b.drop a)).2.2≠0
  . unfold fm at h;rw[if_pos he] at h;exact absurd h he
  . have he':=Classical.not_not.1 he
    obtain ⟨h1,h2,h3⟩:=hg (b.drop a) (by rw[List.length_drop];omega) he';rw[List.length_drop] at h2;have e:fm g b (n+1) a l=fm g b n (a+(g (b.drop a)).2.1) (l++[(g (b.drop a)).1]):=by
     conv=>lhs;unfold fm
     rw[if_neg he]
    rw[e] at h ⊢;have hns:n*s≤b.length - (a+(g (b.drop a)).2.1):=by
     rcases h3 with h3|h3
     . rw[h3,Nat.mul_zero];exact Nat.zero_le _
     . omega
    obtain ⟨m,m1,m2,m3,m4⟩:=Ac g enc s b hg n _ _ (by omega) hns h;refine ⟨(g (b.drop a)).1::m,by rw[m1];simp,by simp[m2],?_,m4⟩;rw[m3,E4,←h1,List.flatMap_cons,List.append_assoc]
theorem Ju {α:Type}(g:List UInt8→α×Nat×Nat)(enc:α→List UInt8)(s s1:Nat)(b:List UInt8)(hs:0< s1)(hss:s≤s1)
 (hg:∀t,s≤t.length→(g t).2.2=0→enc (g t).1=t.take (g t).2.1∧(g t).2.1≤t.length∧(s=0∨(g t).2.1=s)) (h: (aS g s1 b).2.2=0):
 bu (aS g s1 b).1.length++(aS g s1 b).1.flatMap enc=b.take (aS g s1 b).2.1∧(aS g s1 b).2.1≤b.length:=by
 by_cases hc:b9 b s1=0
 . have h1:=k9 hs hc
   have hm:cn b*s≤cn b*s1:=Nat.mul_le_mul_left _ hss;rw[oe hc] at h ⊢;obtain ⟨m,m1,m2,m3,m4⟩:=Ac g enc s b hg (cn b) (ca b) [] (by omega) (by omega) h;rw[m1,List.nil_append,m2,m3,OK hs hc];exact ⟨rfl,m4⟩
 . rw[tq hc] at h;exact absurd h hc
theorem qn {b:List UInt8}(h: (aS ab 1 b).2.2=0):eQ (aS ab 1 b).1=b.take (aS ab 1 b).2.1∧(aS ab 1 b).2.1≤b.length:=
 Ju ab bu 0 1 b (by decide) (by decide) (fun t _ ht=>⟨x8 ht,(du t).1,.inl rfl⟩) h
theorem Ad {α:Type}(g:List UInt8→α×Nat×Nat)(b:List UInt8):∀ (n a:Nat)(l:List α),(fm g b n a l).2.2≠0→(fm g b n a l).1= []∧(fm g b n a l).2.1=0
 |0,a,l,h=>absurd rfl h
 |n+1,a,l,h=>by
  unfold fm at h ⊢;split
  . exact ⟨rfl,rfl⟩
  . rename_i he
    rw[if_neg he] at h;exact Ad g b n _ _ h
theorem x9 {α:Type}{g:List UInt8→α×Nat×Nat}{s:Nat}{b:List UInt8}(h: (aS g s b).2.2≠0): (aS g s b).1= []∧(aS g s b).2.1=0:=by
 by_cases hc:b9 b s=0
 . rw[oe hc] at h ⊢;exact Ad g b _ _ _ h
 . rw[tq hc];exact ⟨rfl,rfl⟩
theorem Jv (l:List Int):l.length≤(eQ l).length:=by
 unfold eQ;rw[List.length_append]
 have:=Ab bu 1 l (fun x _=>uK x);omega
set_option maxRecDepth 100000
set_option maxHeartbeats 8000000
abbrev rB (b:List UInt8)(s:Nat):C:=if b9 b s=0 then .tup [.val (nI (cn b)),.val (nI (ca b)),.val (nI 0)] else .tup [.val (.int .i64 (ab b).1),.val (nI (ab b).2.1),.val (nI (b9 b s))]
abbrev tw (b:List UInt8)(s:Nat):C:=if b9 b s=0 then .tup [.val (nI (cn b)),.val (nI (ca b)),.val (nI 0)] else .tup [.val (nI 0),.val (nI 0),.val (nI (b9 b s))]
theorem qU {p:Prop}(e:p:=by simp -implicitDefEqProofs (disch:=first|omega| (simp only[go_sem,lA,lD,lT,hgb] <;>omega) |decide) only[go_sem,↓reduceIte,Nat.reduceEqDiff,reduceCtorEq];all_goals (first| (rw[cnt_1 hc13];try rfl) | (rw[cnt_2 hc13 hc16];try rfl) | (rw[Lk hc13 hc16 hc19,hm];try rfl) | (rw[Ll hc13 hc16 hc19,Classical.not_not.1 hc13,hm];try rfl))):p:=e
theorem YT {gl:Nat→C}{M:Nat}{pu:Nat→List C→Option C}(hcx:CxOK (ax gl M pu))(h111:∀b:List UInt8,b.length< 1099511627776→pu 105 [sl bC .no b] =some (.tup [.val (.int .i64 (ab b).1),.val (nI (ab b).2.1),.val (nI (ab b).2.2)]))(b:List UInt8)(s:Nat)(hb:b.length< 1099511627776)(hs:0< s∧s≤16):FC Tryd.prog gl 107 [sl bC .no b,.val (nI s)] [] (.tup [.val (.int .i64 (ab b).1),.val (nI (ab b).2.1),.val (nI (b9 b s))]) []:=by
 replace hcx:=hcx.reN (M:=31);refine aH (cx:=ax gl 31 pu) (rs:=[.tmp 4,.tmp 5,.tmp 6]) rfl Tryd.func107 rfl rfl rfl (by simp only[List.length_cons,List.length_nil];decide) (by simp only[go_sem]) ?_;simp only[bj,go_sem];have hy:=True.intro;have hgb:=du b;refine Tr.w hcx [] _ [] rfl rfl rfl ?_ jU;refine Tr.w hcx [1000010,1000011,1000012] _ [] rfl rfl rfl ?_ jU;refine aa fun K1 hK1=>?_;refine Tr.blk ?_;refine Tr.w hcx [1000015] _ [] rfl rfl rfl ?_ jU;refine af rfl (fun hc13=>?_) (fun hc13=>?_)
 ·
  refine Tr.skip ?_;refine hK1 _ ?_;refine Tr.w hcx [1000028,1000029,1000030] _ [] rfl rfl rfl ?_ jU;exact Tr.ret qU
 refine Tr.w hcx [1000018] _ [] rfl rfl rfl ?_ jU;refine af rfl (fun hc16=>?_) (fun hc16=>?_)
 ·
  refine Tr.v hcx [] _ [] rfl rfl rfl ?_ jU;refine hK1 _ ?_;refine Tr.k [4,5,6] ?_;refine Tr.w hcx [1000028,1000029,1000030] _ [] rfl rfl rfl ?_ jU;exact Tr.ret qU
 have hm:=BY hc16;have hy:= @hm;refine Tr.w hcx [1000027] _ [] rfl rfl rfl ?_ jU;refine Tr.k [4,5,6,19] ?_;refine af rfl (fun hc19=>?_) (fun hc19=>?_)
 ·
  have hy:=True.intro;refine Tr.v hcx [] _ [] rfl rfl rfl ?_ jU;refine hK1 _ ?_;refine Tr.w hcx [1000028,1000029,1000030] _ [] rfl rfl rfl ?_ jU;exact Tr.ret qU
 refine Tr.skip ?_;refine hK1 _ ?_;have hy:=True.intro;refine Tr.w hcx [1000028,1000029,1000030] _ [] rfl rfl rfl ?_ jU;exact Tr.ret qU
theorem TE {gl:Nat→C}{M:Nat}{pu:Nat→List C→Option C}(hcx:CxOK (ax gl M pu))(h101:∀b:List UInt8,b.length< 1099511627776→pu 116 [sl bC .no b] =some (.tup [.val (.int .i64 (ab b).1),.val (nI (ab b).2.1),.val (nI (ab b).2.2)]))(b:List UInt8)(s:Nat)(hb:b.length< 1099511627776)(hs:0< s∧s≤16)(hE:b9 b s=0):FC Tryd.prog gl 130 [sl bC .no b,.val (nI s)] [] (.tup [.val (nI (cn b)),.val (nI (ca b)),.val (nI 0)]) []:=by
 replace hcx:=hcx.reN (M:=37);refine aH (cx:=ax gl 37 pu) (rs:=[.tmp 4,.tmp 5,.tmp 6]) rfl Tryd.func130 rfl rfl rfl (by simp only[List.length_cons,List.length_nil];decide) (by simp only[go_sem]) ?_;simp only[bj,go_sem];have ⟨hgt,hmul,hy⟩:=ia;have hgb:=du b;refine Tr.w hcx [] _ [] rfl rfl rfl ?_ eO;refine Tr.w hcx [1000013,1000014,1000015] _ [] rfl rfl rfl ?_ eO;refine aa fun K1 hK1=>?_;refine Tr.w hcx [] _ [] rfl rfl rfl ?_ eO;refine af rfl (fun hc17=>?_) (fun hc17=>?_)
 ·
  refine Tr.w hcx [1000018] _ [] rfl rfl rfl ?_ eO;exact Tr.ret nv
 refine Tr.skip ?_;refine hK1 _ ?_;refine aa fun K2 hK2=>?_;refine Tr.w hcx [] _ [] rfl rfl rfl ?_ eO;refine af rfl (fun hc20=>?_) (fun hc20=>?_)
 ·
  refine Tr.w hcx [] _ [] rfl rfl rfl ?_ eO;exact Tr.ret nv
 have hm:=BY hc20;have hms: (ab b).1.toNat*s≤(ab b).1.toNat*16:=Nat.mul_le_mul_left _ hs.2;refine Tr.skip ?_;refine hK2 _ ?_;refine Tr.k [0,1,7,8] ?_;refine aa fun K3 hK3=>?_;by_cases hgt:b.length< (ab b).1.toNat
 ·
  have hy:= @hm;refine Tr.w hcx [] [some 21,some 22,some 23,some 24,some 25,some 26,some 27,some 28,some 29,some 30,some 31,some 32,some 33,some 34] [] rfl rfl rfl ?_ eO;refine aG rfl ?_;have hy:=True.intro;refine Tr.w hcx [] _ [] rfl rfl rfl ?_ eO;exact Tr.ret nv
 by_cases hmul:b.length - (ab b).2.1< (ab b).1.toNat*s
 ·
  have hy:= @hm;refine Tr.w hcx [] [some 21,some 22,some 23,some 24,some 25,some 26,some 27,some 28,some 29,some 30,some 31,some 32,some 33,some 34] [] rfl rfl rfl ?_ eO;refine aG rfl ?_;have hy:=True.intro;refine Tr.w hcx [] _ [] rfl rfl rfl ?_ eO;exact Tr.ret nv
 have hy:= @hm;refine Tr.w hcx [] [some 21,some 22,some 23,some 24,some 25,some 26,some 27,some 28,some 29,some 30,some 31,some 32,some 33,some 34] [] rfl rfl rfl ?_ eO;refine aq rfl ?_;refine Tr.skip ?_;refine hK3 _ ?_;have hy:=True.intro;refine Tr.w hcx [1000035,1000036] _ [] rfl rfl rfl ?_ eO;exact Tr.ret nv
theorem TF {gl:Nat→C}{M:Nat}{pu:Nat→List C→Option C}(hcx:CxOK (ax gl M pu))(h101:∀b:List UInt8,b.length< 1099511627776→pu 116 [sl bC .no b] =some (.tup [.val (.int .i64 (ab b).1),.val (nI (ab b).2.1),.val (nI (ab b).2.2)]))(b:List UInt8)(s:Nat)(hb:b.length< 1099511627776)(hs:0< s∧s≤16)(hE:¬b9 b s=0):FC Tryd.prog gl 130 [sl bC .no b,.val (nI s)] [] (.tup [.val (nI 0),.val (nI 0),.val (nI (b9 b s))]) []:=by
 replace hcx:=hcx.reN (M:=37);refine aH (cx:=ax gl 37 pu) (rs:=[.tmp 4,.tmp 5,.tmp 6]) rfl Tryd.func130 rfl rfl rfl (by simp only[List.length_cons,List.length_nil];decide) (by simp only[go_sem]) ?_;simp only[bj,go_sem];have ⟨hgt,hmul,hy⟩:=ia;have hgb:=du b;refine Tr.w hcx [] _ [] rfl rfl rfl ?_ eO;refine Tr.w hcx [1000013,1000014,1000015] _ [] rfl rfl rfl ?_ eO;refine aa fun K1 hK1=>?_;refine Tr.w hcx [] _ [] rfl rfl rfl ?_ eO;refine af rfl (fun hc17=>?_) (fun hc17=>?_)
 ·
  refine Tr.w hcx [1000018] _ [] rfl rfl rfl ?_ eO;exact Tr.ret nv
 refine Tr.skip ?_;refine hK1 _ ?_;refine aa fun K2 hK2=>?_;refine Tr.w hcx [] _ [] rfl rfl rfl ?_ eO;refine af rfl (fun hc20=>?_) (fun hc20=>?_)
 ·
  refine Tr.w hcx [] _ [] rfl rfl rfl ?_ eO;exact Tr.ret nv
 have hm:=BY hc20;have hms: (ab b).1.toNat*s≤(ab b).1.toNat*16:=Nat.mul_le_mul_left _ hs.2;refine Tr.skip ?_;refine hK2 _ ?_;refine Tr.k [0,1,7,8] ?_;refine aa fun K3 hK3=>?_;by_cases hgt:b.length< (ab b).1.toNat
 ·
  have hy:= @hm;refine Tr.w hcx [] [some 21,some 22,some 23,some 24,some 25,some 26,some 27,some 28,some 29,some 30,some 31,some 32,some 33,some 34] [] rfl rfl rfl ?_ eO;refine aG rfl ?_;have hy:=True.intro;refine Tr.w hcx [] _ [] rfl rfl rfl ?_ eO;exact Tr.ret nv
 by_cases hmul:b.length - (ab b).2.1< (ab b).1.toNat*s
 ·
  have hy:= @hm;refine Tr.w hcx [] [some 21,some 22,some 23,some 24,some 25,some 26,some 27,some 28,some 29,some 30,some 31,some 32,some 33,some 34] [] rfl rfl rfl ?_ eO;refine aG rfl ?_;have hy:=True.intro;refine Tr.w hcx [] _ [] rfl rfl rfl ?_ eO;exact Tr.ret nv
 have hy:= @hm;refine Tr.w hcx [] [some 21,some 22,some 23,some 24,some 25,some 26,some 27,some 28,some 29,some 30,some 31,some 32,some 33,some 34] [] rfl rfl rfl ?_ eO;refine aq rfl ?_;refine Tr.skip ?_;refine hK3 _ ?_;have hy:=True.intro;refine Tr.w hcx [1000035,1000036] _ [] rfl rfl rfl ?_ eO;exact Tr.ret nv
theorem mG {p:Prop}(e:p:=by intro KZ hZ;simp -implicitDefEqProofs (disch:=first|omega| (simp only[go_sem,lA,lD,lT,hgb,hcl] <;>omega) |decide) only[go_sem,↓reduceIte,Nat.reduceEqDiff,reduceCtorEq,Nat.reduceLT,Nat.reduceBEq,Nat.reduceAdd,h107,h107e,hcE,hy];with_reducible exact hZ):p:=e
theorem acq {gl:Nat→C}{M:Nat}{pu:Nat→List C→Option C}(hcx:CxOK (ax gl M pu))(h107w:∀ (b:List UInt8) (s:Nat),b.length< 1099511627776∧0< s∧s≤16→pu 107 [sl bC .no b,.val (nI s)] =some (rB b s))(b:List UInt8)(hb:b.length< 1099511627776):FC Tryd.prog gl 81 [sl bC .no b] [] (.tup [.val (str (bJ b).1),.val (nI (bJ b).2.1),.val (nI (bJ b).2.2)]) []:=by
 replace hcx:=hcx.reN (M:=27);refine aH (cx:=ax gl 27 pu) (rs:=[.tmp 2,.tmp 3,.tmp 4]) rfl Tryd.func81 rfl rfl rfl (by simp only[List.length_cons,List.length_nil];decide) (by simp only[go_sem]) ?_;simp only[bj,go_sem];have ⟨hcE,hy⟩:=fo;have h107:∀ (b:List UInt8)(s:Nat),b.length< 1099511627776∧0< s∧s≤16∧b9 b s=0→pu 107 [sl bC .no b,.val (nI s)] =some (.tup [.val (nI (cn b)),.val (nI (ca b)),.val (nI 0)]):=fun b s h=>(h107w b s ⟨h.1,h.2.1,h.2.2.1⟩).trans (by unfold rB;rw[if_pos h.2.2.2]);have h107e:∀ (b:List UInt8)(s:Nat),b.length< 1099511627776∧0< s∧s≤16∧¬b9 b s=0→pu 107 [sl bC .no b,.val (nI s)] =some (.tup [.val (.int .i64 (ab b).1),.val (nI (ab b).2.1),.val (nI (b9 b s))]):=fun b s h=>(h107w b s ⟨h.1,h.2.1,h.2.2.1⟩).trans (by unfold rB;rw[if_neg h.2.2.2]);have hgb:=du b;have hcl:=od b 1;refine Tr.w hcx [] _ [] rfl rfl rfl ?_ mG;by_cases hcE:b9 b 1=0
 ·
  have hok:=k9 (by decide) hcE;refine Tr.w hcx [1000011,1000012,1000013] _ [] rfl rfl rfl ?_ mG;refine aa fun K1 hK1=>?_;refine Tr.w hcx [] _ [] rfl rfl rfl ?_ mG;refine aq rfl ?_;refine Tr.skip ?_;refine hK1 _ ?_;refine Tr.k [0,5,6] ?_;refine Tr.w hcx [1000023,1000026] _ [] rfl rfl rfl ?_ mG;exact Tr.ret wn
 have hok:=True.intro;refine Tr.w hcx [1000011,1000012,1000013] _ [] rfl rfl rfl ?_ mG;refine aa fun K2 hK2=>?_;refine Tr.w hcx [] _ [] rfl rfl rfl ?_ mG;refine aG rfl ?_;refine Tr.w hcx [1000016] _ [] rfl rfl rfl ?_ mG;exact Tr.ret wn
theorem kB {p:Prop}(e:p:=by intro KZ hZ;simp -implicitDefEqProofs (disch:=first|omega| (simp only[go_sem,lA,lD,lT,hgb,hcl] <;>omega) |decide) only[go_sem,↓reduceIte,Nat.reduceEqDiff,reduceCtorEq,Nat.reduceLT,Nat.reduceBEq,Nat.reduceAdd,h100,h100e,hcE,hy];with_reducible exact hZ):p:=e
theorem YU {gl:Nat→C}{M:Nat}{pu:Nat→List C→Option C}(hcx:CxOK (ax gl M pu))(h100w:∀ (b:List UInt8) (s:Nat),b.length< 1099511627776∧0< s∧s≤16→pu 130 [sl bC .no b,.val (nI s)] =some (tw b s))(b:List UInt8)(hb:b.length< 1099511627776):FC Tryd.prog gl 125 [sl bC .no b] [] (.tup [.val (str (bJ b).1),.val (nI (bJ b).2.1),.val (nI (bJ b).2.2)]) []:=by
 replace hcx:=hcx.reN (M:=27);refine aH (cx:=ax gl 27 pu) (rs:=[.tmp 2,.tmp 3,.tmp 4]) rfl Tryd.func125 rfl rfl rfl (by simp only[List.length_cons,List.length_nil];decide) (by simp only[go_sem]) ?_;simp only[bj,go_sem];have ⟨hcE,hy⟩:=fo;have h100:∀ (b:List UInt8)(s:Nat),b.length< 1099511627776∧0< s∧s≤16∧b9 b s=0→pu 130 [sl bC .no b,.val (nI s)] =some (.tup [.val (nI (cn b)),.val (nI (ca b)),.val (nI 0)]):=fun b s h=>(h100w b s ⟨h.1,h.2.1,h.2.2.1⟩).trans (by unfold tw;rw[if_pos h.2.2.2]);have h100e:∀ (b:List UInt8)(s:Nat),b.length< 1099511627776∧0< s∧s≤16∧¬b9 b s=0→pu 130 [sl bC .no b,.val (nI s)] =some (.tup [.val (nI 0),.val (nI 0),.val (nI (b9 b s))]):=fun b s h=>(h100w b s ⟨h.1,h.2.1,h.2.2.1⟩).trans (by unfold tw;rw[if_neg h.2.2.2]);have hgb:=du b;have hcl:=od b 1;refine Tr.w hcx [] _ [] rfl rfl rfl ?_ kB;by_cases hcE:b9 b 1=0
 ·
  have hok:=k9 (by decide) hcE;refine Tr.w hcx [1000011,1000012,1000013] _ [] rfl rfl rfl ?_ kB;refine aa fun K1 hK1=>?_;refine Tr.w hcx [] _ [] rfl rfl rfl ?_ kB;refine aq rfl ?_;refine Tr.skip ?_;refine hK1 _ ?_;refine Tr.k [0,5,6] ?_;refine Tr.w hcx [1000023,1000026] _ [] rfl rfl rfl ?_ kB;exact Tr.ret wn
 have hok:=True.intro;refine Tr.w hcx [1000011,1000012,1000013] _ [] rfl rfl rfl ?_ kB;refine aa fun K2 hK2=>?_;refine Tr.w hcx [] _ [] rfl rfl rfl ?_ kB;refine aG rfl ?_;refine Tr.w hcx [1000016] _ [] rfl rfl rfl ?_ kB;exact Tr.ret wn
theorem dX {p:Prop}(e:p:=by intro KZ hZ;simp -implicitDefEqProofs (disch:=first|omega| (simp only[go_sem,lA,lD,lT,hgb,hcl] <;>omega) |decide) only[go_sem,↓reduceIte,Nat.reduceEqDiff,reduceCtorEq,Nat.reduceLT,Nat.reduceBEq,Nat.reduceAdd,h100,h100e,h101,hcE,hy];with_reducible exact hZ):p:=e
theorem uL {p:Prop}(e:p:=by simp -implicitDefEqProofs (disch:=first|omega| (simp only[go_sem,lA,lD,lT,hgb,hcl] <;>omega) |decide) only[go_sem,↓reduceIte,Nat.reduceEqDiff,reduceCtorEq];all_goals (first| (rw[oe hcE,←hst,Ln (by omega) hc36];try rfl) | (rw[oe hcE,←hst];try rfl) | (rw[tq hcE];try rfl))):p:=e
theorem YV {gl:Nat→C}{M:Nat}{pu:Nat→List C→Option C}(hcx:CxOK (ax gl M pu))(h100w:∀ (b:List UInt8) (s:Nat),b.length< 1099511627776∧0< s∧s≤16→pu 130 [sl bC .no b,.val (nI s)] =some (tw b s))(h101:∀b:List UInt8,b.length< 1099511627776→pu 116 [sl bC .no b] =some (.tup [.val (.int .i64 (ab b).1),.val (nI (ab b).2.1),.val (nI (ab b).2.2)]))(b:List UInt8)(hb:b.length< 1099511627776):FC Tryd.prog gl 126 [sl bC .no b] [] (.tup [sl iC .no (aS ab 1 b).1,.val (nI (aS ab 1 b).2.1),.val (nI (aS ab 1 b).2.2)]) []:=by
 replace hcx:=hcx.reN (M:=47);refine aH (cx:=ax gl 47 pu) (rs:=[.tmp 2,.tmp 3,.tmp 4]) rfl Tryd.func126 rfl rfl rfl (by simp only[List.length_cons,List.length_nil];decide) (by simp only[go_sem]) ?_;simp only[bj,go_sem];have ⟨hcE,hy⟩:=fo;have h100:∀ (b:List UInt8)(s:Nat),b.length< 1099511627776∧0< s∧s≤16∧b9 b s=0→pu 130 [sl bC .no b,.val (nI s)] =some (.tup [.val (nI (cn b)),.val (nI (ca b)),.val (nI 0)]):=fun b s h=>(h100w b s ⟨h.1,h.2.1,h.2.2.1⟩).trans (by unfold tw;rw[if_pos h.2.2.2]);have h100e:∀ (b:List UInt8)(s:Nat),b.length< 1099511627776∧0< s∧s≤16∧¬b9 b s=0→pu 130 [sl bC .no b,.val (nI s)] =some (.tup [.val (nI 0),.val (nI 0),.val (nI (b9 b s))]):=fun b s h=>(h100w b s ⟨h.1,h.2.1,h.2.2.1⟩).trans (by unfold tw;rw[if_neg h.2.2.2]);have hgb:=du b;have hcl:=od b 1;refine Tr.w hcx [] _ [] rfl rfl rfl ?_ dX;by_cases hcE:b9 b 1=0
 ·
  have hok:=k9 (by decide) hcE;refine Tr.w hcx [1000016,1000017,1000018] _ [] rfl rfl rfl ?_ dX;refine aa fun K1 hK1=>?_;refine Tr.w hcx [] _ [] rfl rfl rfl ?_ dX;refine aq rfl ?_;refine Tr.skip ?_;refine hK1 _ ?_;refine Tr.w hcx [] _ [] rfl rfl rfl ?_ dX;refine aa fun K2 hK2=>?_;refine Tr.w hcx [] _ [] rfl rfl rfl ?_ dX;refine Tr.k [0,5,6,8,9] ?_;refine Tr.blk ?_;refine ao (α:=(Nat×Nat×List Int)) (fun a=>[(0,?v0_1),(5,?v5_1),(6,.val (nI a.2.1)),(8,sl iC (.own 1) a.2.2),(9,.val (nI a.1))]) (fun a=>?h_1) (fun a=>a.1≤cn b∧a.2.1≤b.length∧a.2.2.length=a.1∧fm ab b (cn b - a.1) a.2.1 a.2.2=fm ab b (cn b) (ca b) []) (fun a=>cn b - a.1) ((0,ca b,[])) ?_ ?le_1 ?hh_1 ?bd_1
  case hh_1=>exact rfl
  case le_1=>exact LT
  . exact ⟨Nat.zero_le _,hok.2.2.2.2.1,rfl,rfl⟩
  rintro ⟨i,p,l⟩ ⟨hi,hp,hll,hst⟩
  dsimp only at*
  have hbd:=du (b.drop p);rw[List.length_drop] at hbd;refine aa fun K3 hK3=>?_;refine Tr.w hcx [] _ [] rfl rfl rfl ?_ dX;refine af rfl (fun hc24=>?_) (fun hc24=>?_)
  ·
   refine Tr.skip ?_;refine hK3 _ ?_;refine aa fun K4 hK4=>?_;refine Tr.blk ?_;refine Tr.w hcx [1000032,1000033,1000034] _ [] rfl rfl rfl ?_ dX;refine aa fun K5 hK5=>?_;refine Tr.w hcx [] _ [] rfl rfl rfl ?_ dX;refine af rfl (fun hc36=>?_) (fun hc36=>?_)
   ·
    refine Tr.w hcx [1000037] _ [] rfl rfl rfl ?_ dX;first| (refine Tr.k [2,3,4] ?_;refine lK iC .no (by decide) (by decide) (by decide) ?_) |skip
    exact Tr.ret uL
   refine Tr.skip ?_;refine hK5 _ ?_;refine Tr.w hcx [38,1000041] _ [] rfl rfl rfl ?_ dX;refine Tr.k [0,5,6,8,9,11] ?_;refine Tr.v hcx [1000044] _ [] rfl rfl rfl ?_ dX;refine hK4 _ ?_;refine Tr.v hcx [1000026] _ [] rfl rfl rfl ?_ dX;exact ⟨(i+1,p+(ab (b.drop p)).2.1,l++[(ab (b.drop p)).1]),⟨⟨by show i+1≤cn b;omega,by show p+(ab (b.drop p)).2.1≤b.length;omega,by show (l++[(ab (b.drop p)).1]).length=i+1;rw[List.length_append,hll];rfl,(Lo hc24 (Classical.not_not.1 hc36)).symm.trans hst⟩,O1⟩,LT,rfl⟩
  have hie:i=cn b:=by omega
  rw[hie,Nat.sub_self,Lm] at hst;refine Tr.exit ?_;refine hK2 _ ?_;refine Tr.w hcx [1000045,1000046] _ [] rfl rfl rfl ?_ dX;first| (refine Tr.k [2,3,4] ?_;refine lK iC .no (by decide) (by decide) (by decide) ?_) |skip
  exact Tr.ret uL
 have hok:=True.intro;refine Tr.w hcx [1000016,1000017,1000018] _ [] rfl rfl rfl ?_ dX;refine aa fun K6 hK6=>?_;refine Tr.w hcx [] _ [] rfl rfl rfl ?_ dX;refine aG rfl ?_;refine Tr.w hcx [1000021] _ [] rfl rfl rfl ?_ dX;first| (refine Tr.k [2,3,4] ?_;refine lK iC .no (by decide) (by decide) (by decide) ?_) |skip
 exact Tr.ret uL
theorem qv {β:Type}(F:Nat→List β)(v:Nat): ((List.range (v+1)).flatMap F).length= ((List.range v).flatMap F).length+(F v).length:=by
 rw[List.range_succ,List.flatMap_append,List.length_append];simp
theorem B6 {β:Type}(F:Nat→List β)(v:Nat):∀d,((List.range v).flatMap F).length≤((List.range (v+d)).flatMap F).length
 |0=>Nat.le_refl _
 |d+1=>Nat.le_trans (B6 F v d) (by rw[←Nat.add_assoc,qv];omega)
theorem Fg {β:Type}[Inhabited β](F:Nat→List β)(v j:Nat)(hj:j< (F v).length):∀d,gt ((List.range (v+1+d)).flatMap F) (((List.range v).flatMap F).length+j) =gt (F v) j
 |0=>by
  rw[Nat.add_zero,List.range_succ,List.flatMap_append];simp only[gt,List.getD];rw[List.getElem?_append_right (by omega),Nat.add_sub_cancel_left];simp
 |d+1=>by
  rw[←Nat.add_assoc,List.range_succ,List.flatMap_append];have h:=Fg F v j hj d;have h1:=B6 F (v+1) d;rw[qv] at h1;simp only[gt,List.getD] at h ⊢;rw[List.getElem?_append_left (by omega)];exact h
theorem Fh {β:Type}[Inhabited β](F:Nat→List β)(n v j:Nat)(hv:v< n)(hj:j< (F v).length):gt ((List.range n).flatMap F) (((List.range v).flatMap F).length+j) =gt (F v) j∧((List.range v).flatMap F).length+j< ((List.range n).flatMap F).length:=by
 obtain ⟨d,rfl⟩:∃d,n=v+1+d:=⟨n - (v+1),by omega⟩;refine ⟨Fg F v j hj d,?_⟩;have:=B6 F (v+1) d;rw[qv] at this;omega
abbrev Rd:=(Nat×Nat×Nat)×aI
def nf (v a:Nat)(l:List aI):List Rd:=(List.range l.length).map fun i=>((v,a,i),gt l i)
def ym (v:Nat)(l:bE):List Rd:=(List.range l.length).flatMap fun a=>nf v a (gt l a).2
def bm (w:ah):List Rd:=(List.range w.length).flatMap fun v=>ym v (gt w v)
def oA (v:Nat)(l:bE)(a:Nat):Nat:=((List.range a).flatMap fun a=>nf v a (gt l a).2).length
def oV (w:ah)(v:Nat):Nat:=((List.range v).flatMap fun v=>ym v (gt w v)).length
theorem uU (v a:Nat)(l:List aI): (nf v a l).length=l.length:=by simp[nf]
theorem Fi (v a:Nat)(l:List aI)(i:Nat)(h:i< l.length):gt (nf v a l) i= ((v,a,i),gt l i):=by
 simp[nf,gt,List.getD,List.getElem?_map,List.getElem?_range h]
theorem acH (v:Nat)(l:bE):oA v l 0=0:=rfl
theorem acI (w:ah):oV w 0=0:=rfl
theorem Va (v:Nat)(l:bE)(a:Nat):oA v l (a+1) =oA v l a+(gt l a).2.length:=by unfold oA;rw[qv,uU]
theorem Vb (v:Nat)(l:bE):oA v l l.length= (ym v l).length:=rfl
theorem Vc (w:ah)(v:Nat):oV w (v+1) =oV w v+(ym v (gt w v)).length:=by unfold oV;rw[qv]
theorem Vd (w:ah):oV w w.length= (bm w).length:=rfl
theorem yn (w:ah)(v a i:Nat)(hv:v< w.length)(ha:a< (gt w v).length)(hi:i< (gt (gt w v) a).2.length):
 gt (bm w) (oV w v+(oA v (gt w v) a+i)) = ((v,a,i),gt (gt (gt w v) a).2 i)∧oV w v+(oA v (gt w v) a+i) < (bm w).length:=by
 have h1:=Fh (fun a=>nf v a (gt (gt w v) a).2) (gt w v).length a i ha (by rw[uU];exact hi);have h2:=Fh (fun v=>ym v (gt w v)) w.length v (oA v (gt w v) a+i) hv h1.2;refine ⟨h2.1.trans (h1.1.trans (Fi _ _ _ _ hi)),h2.2⟩
theorem gm {p:Prop}(e:p:=by intro KZ hZ;simp -implicitDefEqProofs (disch:=first|omega| (simp only[go_sem,lA,lD,lT] <;>omega) |decide) only[go_sem,↓reduceIte,Nat.reduceEqDiff,reduceCtorEq,Nat.reduceLT,Nat.reduceBEq,Nat.reduceAdd,ss,List.append_nil];with_reducible exact hZ):p:=e
theorem VT {p:Prop}(e:p:=by intro c k KZ hZ;simp -implicitDefEqProofs (disch:=first|omega|decide) only[go_sem,↓reduceIte,Nat.reduceEqDiff,reduceCtorEq,Nat.reduceLT,Nat.reduceBEq,Nat.reduceAdd];with_reducible exact hZ):p:=e
theorem j6 {p:Prop}(e:p:=by intro RZ hZ;simp only[zE,DV,↓aT,↓reduceIte,Nat.reduceEqDiff,reduceCtorEq];exact hZ):p:=e
theorem FZ {p:Prop}(e:p:=by (repeat' (first|exact True.intro| (refine ⟨rfl,.inl ⟨rfl,by first|rfl|exact bf _ _ _ _⟩,?_⟩) | (refine ⟨rfl,.inr ⟨_,rfl,rfl⟩,?_⟩)))):p:=e
def vR (w:ah)(i:Nat):List C:=[.agg [.val (nI (gt (bm w) i).1.1),.val (nI (gt (bm w) i).1.2.1),.val (nI (gt (bm w) i).1.2.2)],.agg (pC (gt (bm w) i).2)]
def WB (w:ah):Prop:=w.length< 1099511627776∧(∀v,v< w.length→(gt w v).length< 1099511627776)∧∀v a,v< w.length→a< (gt w v).length→(gt (gt w v) a).2.length< 1099511627776
theorem yE {gl:Nat→C}{M:Nat}{pu:Nat→List C→Option C}(hcx:CxOK (ax gl M pu))(w:ah)(hw:WB w):
 ItrB Tryd.prog gl 93 [.kp [sl vC .no w]] (bm w).length (vR w) RowN:=by
 replace hcx:=hcx.reN (M:=44);refine ItrB.of (cx:=ax gl 44 pu) rfl Tryd.func93 rfl rfl rfl (by simp only[List.length_cons,List.length_nil];decide) ?_;intro n l0 rec G I B h Y hY hst h0 hR;have ss:=True.intro;have hw1:=hw.1;simp only[bj,go_sem];refine TrY.w hcx [] _ [] rfl rfl rfl ?_ gm;refine TrY.block ?_;refine TrY.loop (fun m s=> ∃v,v≤w.length∧m=w.length - v∧I (oV w v) s.h∧Le s.env [(0,.val (.func (.yield l0) #[] #[])),(10,sl vC .no w),(11,.val (nI w.length)),(12,.val (nI v))]) w.length ⟨0,Nat.zero_le _,rfl,h0,LT⟩ ?_;rintro m s ⟨v,hv,rfl,hIv,hle⟩;refine TrY.live _ hle ?_;generalize s.h=k at hIv ⊢
 refine TrY.w hcx [] _ [] rfl rfl rfl ?_ gm;by_cases hc:v< w.length
 . refine TrY.seq (TrY.cond (b:=true) (by rw[ga];exact congrArg (fun b=>C.val (.bool b)) (decide_eq_true hc)) ?_)
   refine gF (Tr.skip (Q:=fun x s'=>x= .normal∧s'=_) ⟨rfl,rfl⟩) ?_;rintro x s' ⟨rfl,rfl⟩;refine ⟨fun _=>?_,fun c=>absurd rfl c⟩;refine TrY.k [0,10,11,12] ?_ j6;refine TrY.seq (TrY.block ?_);have hk:=hR _ k hIv;obtain ⟨V,hV⟩:∃V,gt w v=V:=⟨_,rfl⟩;have hVl:=hw.2.1 v hc;rw[hV] at hVl;have ss:=hV;refine TrY.w hcx [1000014] _ [none] rfl rfl rfl ?_ gm;refine TrY.w hcx [] _ [] rfl rfl rfl ?_ gm;refine TrY.k [0,3,10,11,12,18,19,20] ?_ j6;refine z5 hcx hk (eH vC 0 V) (Ah V) (by simp only[List.all_cons,List.all_nil,d7,bf,Bool.and_self]) ?_;refine TrY.block ?_;refine TrY.loop (fun m s=> ∃a,a≤V.length∧m=V.length - a∧I (oV w v+oA v V a) s.h∧Le s.env [(0,.val (.func (.yield l0) #[] #[])),(3,.val (nI v)),(10,sl vC .no w),(11,.val (nI w.length)),(12,.val (nI v)),(18,sl aC .no V),(19,.val (nI V.length)),(20,.val (nI a))]) V.length ⟨0,Nat.zero_le _,rfl,by rw[acH];exact hIv,LT⟩ ?_;rintro m s ⟨a,ha,rfl,hIa,hle⟩;refine TrY.live _ hle ?_;generalize s.h=k2 at hIa ⊢
   refine TrY.w hcx [] _ [] rfl rfl rfl ?_ gm;by_cases hca:a< V.length
   . refine TrY.seq (TrY.cond (b:=true) (by rw[ga];exact congrArg (fun b=>C.val (.bool b)) (decide_eq_true hca)) ?_)
     refine gF (Tr.skip (Q:=fun x s'=>x= .normal∧s'=_) ⟨rfl,rfl⟩) ?_;rintro x s' ⟨rfl,rfl⟩;refine ⟨fun _=>?_,fun c=>absurd rfl c⟩;refine TrY.k [0,3,10,11,12,18,19,20] ?_ j6;refine TrY.seq (TrY.block ?_);have hk2:=hR _ k2 hIa;obtain ⟨L,hL⟩:∃L,(gt V a).2=L:=⟨_,rfl⟩;have hLl:=hw.2.2 v a hc (by rw[hV];exact hca);rw[hV,hL] at hLl;have ss:=And.intro hV hL;refine TrY.w hcx [1000022] _ [none] rfl rfl rfl ?_ gm;refine TrY.w hcx [] _ [] rfl rfl rfl ?_ gm;refine TrY.k [0,3,5,10,11,12,18,19,20,26,27,28] ?_ j6;refine z5 hcx hk2 (eH aC 0 (gt V a)) (Ag (gt V a)) (by simp only[List.all_cons,List.all_nil,d7,bf,Bool.and_self]) ?_;refine TrY.block ?_;refine TrY.loop (fun m s=> ∃i,i≤L.length∧m=L.length - i∧I (oV w v+(oA v V a+i)) s.h∧Le s.env [(0,.val (.func (.yield l0) #[] #[])),(3,.val (nI v)),(5,.val (nI a)),(10,sl vC .no w),(11,.val (nI w.length)),(12,.val (nI v)),(18,sl aC .no V),(19,.val (nI V.length)),(20,.val (nI a)),(26,sl pC .no L),(27,.val (nI L.length)),(28,.val (nI i))]) L.length ⟨0,Nat.zero_le _,rfl,hIa,LT⟩ ?_;rintro m s ⟨i,hi,rfl,hIi,hle⟩;refine TrY.live _ hle ?_;generalize s.h=k3 at hIi ⊢
     refine TrY.w hcx [] _ [] rfl rfl rfl ?_ gm;by_cases hci:i< L.length
     . refine TrY.seq (TrY.cond (b:=true) (by rw[ga];exact congrArg (fun b=>C.val (.bool b)) (decide_eq_true hci)) ?_)
       refine gF (Tr.skip (Q:=fun x s'=>x= .normal∧s'=_) ⟨rfl,rfl⟩) ?_;rintro x s' ⟨rfl,rfl⟩;refine ⟨fun _=>?_,fun c=>absurd rfl c⟩;refine TrY.k [0,3,5,10,11,12,18,19,20,26,27,28] ?_ j6;refine TrY.seq (TrY.block ?_);have hk3:=hR _ k3 hIi;have hg:=yn w v a i hc (by rw[hV];exact hca) (by rw[hV,hL];exact hci);rw[hV,hL] at hg;refine TrY.w hcx [1000030] _ [none] rfl rfl rfl ?_ gm;refine TrY.k [0,3,5,7,8,10,11,12,18,19,20,26,27,28] ?_ j6;refine z4 hcx [(0,.val (.func (.yield l0) #[] #[])),(3,.val (nI v)),(5,.val (nI a)),(7,.val (nI i)),(8,.kp (pC (gt L i))),(10,sl vC .no w),(11,.val (nI w.length)),(12,.val (nI v)),(18,sl aC .no V),(19,.val (nI V.length)),(20,.val (nI a)),(26,sl pC .no L),(27,.val (nI L.length)),(28,.val (nI i))] (pC (gt L i)) hk3 (eH pC 0 (gt L i)) (Af _) rfl FZ ?_;refine Tm hcx hY 6 rfl (show 39< 44 by decide) rfl [] _ rfl rfl (fun post hp=>hst _ k3 post hg.2 hIi hp) gm rfl ?_ VT ?_ ?_
       . unfold vR;rw[hg.1];rfl
       . intro k4 hk4
         refine TrY.cond (b:=false) rfl ?_;refine gF (Tr.skip (Q:=fun x s'=>x= .normal∧s'=_) ⟨rfl,rfl⟩) ?_;rintro x s' ⟨rfl,rfl⟩;refine ⟨fun _=>?_,fun c=>absurd rfl c⟩;refine TrY.k [0,3,5,10,11,12,18,19,20,26,27,28] ?_ j6;refine TrY.v hcx [] _ [] rfl rfl rfl ?_ gm;exact ⟨rfl,L.length - (i+1),by omega,i+1,by omega,rfl,hk4,LT⟩
       . intro j k4 hk4
         exact aG rfl (Tr.ret hk4)
     . refine TrY.seq (TrY.cond (b:=false) (by rw[ga];exact congrArg (fun b=>C.val (.bool b)) (decide_eq_false hci)) ?_)
       refine gF (Tr.exit (Q:=fun x s'=>x= .exit 4∧s'=_) ⟨rfl,rfl⟩) ?_;rintro x s' ⟨rfl,rfl⟩;obtain rfl:i=L.length:=by omega
       refine ⟨fun _=>?_,fun c=>absurd rfl c⟩;refine TrY.k [0,3,10,11,12,18,19,20] ?_ j6;refine TrY.v hcx [] _ [] rfl rfl rfl ?_ gm;exact ⟨rfl,V.length - (a+1),by omega,a+1,by omega,rfl,by rw[Va,hL];exact hIi,LT⟩
   . refine TrY.seq (TrY.cond (b:=false) (by rw[ga];exact congrArg (fun b=>C.val (.bool b)) (decide_eq_false hca)) ?_)
     refine gF (Tr.exit (Q:=fun x s'=>x= .exit 2∧s'=_) ⟨rfl,rfl⟩) ?_;rintro x s' ⟨rfl,rfl⟩;obtain rfl:a=V.length:=by omega
     refine ⟨fun _=>?_,fun c=>absurd rfl c⟩;refine TrY.k [0,10,11,12] ?_ j6;refine TrY.v hcx [] _ [] rfl rfl rfl ?_ gm;exact ⟨rfl,w.length - (v+1),by omega,v+1,by omega,rfl,by rw[Vc,hV,←Vb];exact hIa,LT⟩
 . refine TrY.seq (TrY.cond (b:=false) (by rw[ga];exact congrArg (fun b=>C.val (.bool b)) (decide_eq_false hc)) ?_)
   refine gF (Tr.exit (Q:=fun x s'=>x= .exit 0∧s'=_) ⟨rfl,rfl⟩) ?_;rintro x s' ⟨rfl,rfl⟩;obtain rfl:v=w.length:=by omega
   rw[Vd] at hIv;exact hIv
theorem RowN.c {n:Nat}{h:Hp}{l:List C}(H:RowN n h)(h1:noRefs 0 l=true)(h2:aR (some l) =some l):RowN (n+1) (some l::h):=
 ⟨by simp[H.len],by rw[kM,h1,H.nr];rfl,fun j hj=>by
   cases j with
   |zero=>left;rw[xf,h2];rfl
   |succ j=>
    have:=H.lv j (by omega);rw[rV,r9];simpa using this⟩
noncomputable def uZ (gl:Nat→C)(M:Nat)(pu:Nat→List C→Option C):Cx:= { ax gl M pu with top:=false }
section
variable {gl:Nat→C} {M:Nat} {pu:Nat→List C→Option C}
theorem VU: (uZ gl M pu).P=Tryd.prog:=rfl
theorem VV: (uZ gl M pu).N=M:=rfl
theorem PB (d:Option Nat):kW (uZ gl M pu) d=false:=by cases d<;>rfl
theorem yF: (uZ gl M pu).P.follows .mixedOrders=true:=bM (gl:=gl) (M:=M) (pu:=pu)
end
attribute [go_sem] VU VV PB
theorem PQ (u:TypeDesc)(y:Nat):fD (some ⟨u,3,y,[nI 0,nI 0,nI 0]⟩) 0 [] =some (vp (sl iD .full [])):=rfl
theorem adc {gl:Nat→C}{M:Nat}{pu:Nat→List C→Option C}(hcx:CxOK (ax gl M pu))(w:ah):FC Tryd.prog gl 53 [.agg [sl vC .no w]] [] (.fn 93 [.kp [sl vC .no w]]) []:=by
 replace hcx:=hcx.reN (M:=4);refine aH (cx:=ax gl 4 pu) (rs:=[.tmp 2]) rfl Tryd.func53 rfl rfl rfl (by simp only[List.length_cons,List.length_nil];decide) (by simp only[go_sem]) ?_;simp only[bj,go_sem];have hy:=True.intro;refine Tr.w hcx [] _ [none] rfl rfl rfl ?_ eN;refine Tr.w hcx [1000003] _ [] rfl rfl rfl ?_ eN;refine aL hcx 0 [sl vC .no w] ?_;exact Tr.ret La
theorem Ws (u:TypeDesc)(y:Nat)(x:aI):fD (some ⟨u,7,y,[nI 0,nI 0,nI 0,nI 0,nI 0,str [],.slice none 0 0]⟩) 1 [(0,.agg (pC x))] =some (vp (sl pC .full [x])):=rfl
theorem Wt (u:TypeDesc)(y:Nat)(x:ID):fD (some ⟨u,3,y,[nI 0,nI 0,nI 0]⟩) 1 [(0,.agg (iD x))] =some (vp (sl iD .full [x])):=rfl
theorem RoundQ.c {k:Nat}{I1:Hp→Prop}{Q:Ex→Hp→Prop}{s:St}(h:I1 (s.h.take k))(hb:∀ (b:Nat) cells,b< k→s.h[b]? =some (some cells)→noRefs k cells=true:=by
 first
 | (rintro (_|b) cells hb hq
    . (cases hq;first| (simp only[cH,cV,bf,d7,eH,bQ,Bool.and_self];done) | (simp only[go_sem];done))
    . omega)
 | (rintro (_|_|b) cells hb hq
    . (cases hq;first| (simp only[cH,cV,bf,d7,eH,bQ,Bool.and_self];done) | (simp only[go_sem];done))
    . (cases hq;first| (simp only[cH,cV,bf,d7,eH,bQ,Bool.and_self];done) | (simp only[go_sem];done))
    . omega)):RoundQ k I1 Q .normal s:= .inl ⟨h,hb⟩
attribute [go_sem] Ws Wt PQ vR
def cm (w:ah):List aI:=(bm w).map (·.2)
theorem gU (w:ah): (cm w).length= (bm w).length:=by simp[cm]
theorem qx (w:ah)(i:Nat)(h:i< (bm w).length):gt (cm w) i= (gt (bm w) i).2:=by simp[cm,gt,List.getD,List.getElem?_eq_getElem h]
theorem eX {α:Type}[Inhabited α](l:List α)(i:Nat)(h:i< l.length):l.take i++[gt l i] =l.take (i+1):=by
 rw[List.take_add_one,List.getElem?_eq_getElem h];simp[gt,List.getD,List.getElem?_eq_getElem h]
def WS (w:ah):Prop:=WB w∧(bm w).length≤100000∧∀i,i< (bm w).length→(gt (bm w) i).2.2.2.2.2.length≤1000000
theorem Wu {gl:Nat→C}{M:Nat}{pu:Nat→List C→Option C}{n:Nat}{Q:Ex→St→Prop}{g f m:Nat}{ps:List Nat}{assign body:Code}{e:List (Nat×C)}{h:Hp}{caps:List C}(N:Nat)(xs:Nat→List C)(H:Nat→Hp)(F:Nat→Prop)(hg:A e g= .fn f caps)(hI:ItrB Tryd.prog gl f caps N xs RowN∧∀i,RowN m (H i))
 (hx:∀i,i< N→(xs i).length=ps.length) (hp:∀p∈ps,p< M) (h0:h=H 0) (hF:F 0)
 (hb:∀i,i< N→F i→Tr (uZ gl M pu) (H i).length assign ⟨A (iX ps (xs i) (rz e)),H i⟩ fun x s=>x= .normal∧Tr (uZ gl M pu) (H i).length body s (RoundQ (H i).length (fun k=>k=H (i+1)∧F (i+1)) fun x h'=>Q x ⟨A e,h'⟩))
 (hd:F N→Q .normal ⟨A e,H N⟩):Tr (ax gl M pu) n (.rangeFunc (.tmp g) ps.toArray assign body) ⟨A e,h⟩ Q:=
 xR (cx:=ax gl M pu) rfl (fun i k=>k=H i∧F i) hg (hI.1 m _ fun i k hk=>by rw[hk.1];exact hI.2 i) hx hp ⟨h0,hF⟩ (fun i k hi hk=>by obtain ⟨rfl,hk⟩:=hk;rw[tf,ph];exact hb i hi hk) (fun k hk=>by obtain ⟨rfl,hk⟩:=hk;exact hd hk)
theorem tR (op:BinOp)(a b:ID):aw Tryd.prog op 34 (.agg (iD a)) (.agg (iD b)) =s7 op (decide (a=b)):=by
 have hg:Tryd.prog.eqGuardType Tryd.prog.depth 34=false:=by kernel_rfl
 have hs:Tryd.prog.stoodInHeld 34=false:=by kernel_rfl
 have hi:∀x y:Int,gL Tryd.prog 8 3 (.val (.int .i64 x)) (.val (.int .i64 y)) =some (decide (x=y)):=fun x y=>uB Tryd.prog 7 jc x y;have he:gL Tryd.prog 9 34 (.agg (iD a)) (.agg (iD b)) =some (decide (a=b)):=by
  obtain ⟨a1,a2,a3⟩:=a;obtain ⟨b1,b2,b3⟩:=b;unfold gL;rw[lW];simp only[hs,C.agg?,iD,rQ,jc];have g:∀ (xs:List C)(o:Nat),cA ⟨.int .i64,1,8,[.int .i64 0]⟩ xs o=cb xs o:=fun _ _=>rfl;have r0:∀a b c:Value,cb [.val a,.val b,.val c] 0=some (.val a):=fun _ _ _=>rfl;have r1:∀a b c:Value,cb [.val a,.val b,.val c] 1=some (.val b):=fun _ _ _=>rfl;have r2:∀a b c:Value,cb [.val a,.val b,.val c] 2=some (.val c):=fun _ _ _=>rfl;rw[if_neg (by decide)];simp only[g,r0,r1,r2,hi,ne_eq,String.reduceEq,not_false_eq_true,if_true];by_cases e1:a1=b1<;>by_cases e2:a2=b2<;>by_cases e3:a3=b3<;>simp[e1,e2,e3]
 show ji Tryd.prog op 34 _ _=_;unfold ji;rw[if_pos ⟨.inl ⟨rfl,rfl⟩,hg⟩];unfold s7;cases op<;>simp[he,vp,Plan.pure]
def dj (w:ah)(id:ID): (Nat×Nat×Nat)×Bool:=match (bm w).find? (fun r=>decide (r.2.1=id)) with
 |some r=>(r.1,true)
 |none=>((0,0,0),false)
theorem LA {w:ah}{id:ID}{i:Nat}(hi:i< (bm w).length)(hn:∀j,j< i→¬ (gt (bm w) j).2.1=id)(h: (gt (bm w) i).2.1=id):dj w id= ((gt (bm w) i).1,true):=by
 have e:∀j (hj:j< (bm w).length),gt (bm w) j= (bm w)[j]:=fun j hj=>by simp[gt,List.getD,List.getElem?_eq_getElem hj]
 have: (bm w).find? (fun r=>decide (r.2.1=id)) =some (gt (bm w) i):=by
  rw[List.find?_eq_some_iff_getElem];refine ⟨by simpa using h,i,hi,(e i hi).symm,fun j hj=>?_⟩;have:=hn j hj;rw[e j (by omega)] at this;simpa using this
 unfold dj;rw[this]
theorem LB {w:ah}{id:ID}(hn:∀j,j< (bm w).length→¬ (gt (bm w) j).2.1=id):dj w id= ((0,0,0),false):=by
 have: (bm w).find? (fun r=>decide (r.2.1=id)) =none:=by
  rw[List.find?_eq_none];intro r hr;obtain ⟨j,hj,rfl⟩:=List.getElem_of_mem hr;have:=hn j hj;rw[show gt (bm w) j= (bm w)[j] by simp[gt,List.getD,List.getElem?_eq_getElem hj]] at this;simpa using this
 unfold dj;rw[this]
theorem ld {p:Prop}(e:p:=by intro KZ hZ;simp -implicitDefEqProofs (disch:=first|omega| (simp only[go_sem,lA,lD,lT] <;>omega) |decide) only[go_sem,↓reduceIte,Nat.reduceEqDiff,reduceCtorEq,Nat.reduceLT,Nat.reduceBEq,Nat.reduceAdd,h53,tR,c1,hy];with_reducible exact hZ):p:=e
theorem FU {p:Prop}(e:p:=by simp -implicitDefEqProofs (disch:=first|omega| (simp only[go_sem,lA,lD,lT] <;>omega) |decide) only[go_sem,↓reduceIte,Nat.reduceEqDiff,reduceCtorEq];all_goals (first| (rw[hR];done) | (rw[hR];rfl))):p:=e
theorem ade {gl:Nat→C}{M:Nat}{pu:Nat→List C→Option C}(hcx:CxOK (ax gl M pu))(h53:∀w:ah,pu 53 [.agg [sl vC .no w]] =some (.fn 93 [.kp [sl vC .no w]]))(w:ah)(id:ID)(hw:WB w):FC Tryd.prog gl 32 [.agg [sl vC .no w],.agg (iD id)] [] (.tup [.agg [.val (nI (dj w id).1.1),.val (nI (dj w id).1.2.1),.val (nI (dj w id).1.2.2)],.val (.bool (dj w id).2)]) []:=by
 replace hcx:=hcx.reN (M:=18);refine aH (cx:=ax gl 18 pu) (rs:=[.cell 4 60,.cell 5 4]) rfl Tryd.func32 rfl rfl rfl (by simp only[List.length_cons,List.length_nil];decide) (by simp only[go_sem]) ?_;simp only[bj,go_sem];have ⟨c1,hy⟩:=fo;refine Tr.w hcx [] _ [none,none,none,none] rfl rfl rfl ?_ ld;refine aa fun K1 hK1=>?_;refine Tr.w hcx [] _ [] rfl rfl rfl ?_ ld;refine Tr.blk ?_;refine aL hcx 1 (iD id) ?_;refine Tr.k [3,4,5,9] ?_;refine aW hcx [2,3] ?_;refine Wu ((bm w).length) (vR w) (fun i=>[some [.val (nI 0),.val (nI 0),.val (nI 0)],some [.val (.bool false)]]) (fun i=> ∀j,j< i→¬ (gt (bm w) j).2.1=id) rfl (⟨yE hcx w hw,fun i=>(RowN.nil.c rfl rfl).c rfl rfl⟩) (fun i hi=>rfl) (by decide) (rfl) (fun j hj=>by omega) ?rb_1 ?rd_1
 case rb_1=>
  intro i hi hF;replace hcx:=hcx.rnd;have bM:= @yF;simp only[go_sem];refine Tr.w hcx [] _ [none] rfl rfl rfl ?_ ld;refine Tr.v hcx [] _ [none] rfl rfl rfl ?_ ld;refine ⟨rfl,?_⟩;refine Tr.k [3,4,5,6,7] ?_;refine Tr.blk ?_;by_cases c1: (gt (bm w) i).2.1=id
  ·
   have hR:=LA hi hF c1;refine Tr.w hcx [] _ [] rfl rfl rfl ?_ ld;refine aG rfl ?_;refine Tr.w hcx [] _ [] rfl rfl rfl ?_ ld;exact Tr.ret (RoundQ.r FU)
  skip;refine Tr.w hcx [] _ [] rfl rfl rfl ?_ ld;refine aq rfl ?_;refine Tr.skip ?_;exact RoundQ.c (⟨rfl,fun j hj=>(Nat.lt_succ_iff_lt_or_eq.1 hj).elim (hF j) (fun e=>by subst e;simpa using c1)⟩)
 case rd_1=>
  intro hF;have hR:=LB hF;refine hK1 _ ?_;refine Tr.w hcx [] _ [] rfl rfl rfl ?_ ld;exact Tr.ret FU
def nj (x:Int):Prop:= -9223372036854775808≤x∧x≤9223372036854775807
instance (x:Int):Decidable (nj x):=by unfold nj;exact inferInstance
def cz (x:ID):Prop:=nj x.1∧nj x.2.1∧nj x.2.2
instance (x:ID):Decidable (cz x):=by unfold cz;exact inferInstance
def qy (t:TypeId)(u:Value):Bool:=t==34 && (match u with
 | .agg vs=>(match vs.toList with
   | [.int .i64 a,.int .i64 b,.int .i64 c] =>decide (cz (a,b,c))
   |_=>false)
 |_=>false)
def ls (x:ID):Value:= .agg #[.int .i64 x.1,.int .i64 x.2.1,.int .i64 x.2.2]
theorem oE {x:ID}(h:cz x):qy 34 (ls x) =true:=by
 obtain ⟨a,b,c⟩:=x;show (true && decide (cz (a,b,c))) =true;rw[Bool.true_and];exact decide_eq_true h
theorem Qb:laidOutB Tryd.prog=true:=by kernel_rfl
theorem Gp: (34:TypeId) < Tryd.prog.types.size:=of_decide_eq_true (by kernel_rfl)
theorem Gq:Tryd.prog.underlying 34=some (.struct #[Field.mk "By" 3 0 false "" "" 0,Field.mk "Seq" 3 1 false "" "" 8,Field.mk "K" 3 2 false "" "" 16]) :=by kernel_rfl
theorem Z6:Tryd.prog.underlying 3=some (.int .i64):=by kernel_rfl
theorem Xj:Tryd.prog.cellsOf 34=3:=by kernel_rfl
theorem Z7:Tryd.prog.cellsOf 3=1:=by kernel_rfl
theorem Xk:Tryd.prog.keyType 34=true:=by kernel_rfl
theorem Qc:Tryd.prog.keyTypeAt 2 34=true:=by kernel_rfl
theorem Xl:WideMaps.KeyLaw Tryd.prog 34:=deep_law_laid Qb (m:=2) (Nat.le_of_ble_eq_true rfl) Gp Qc (by rw[Gq])
theorem Qd {P:Program} (hsz:34< P.types.size) (u34:P.underlying 34=some (.struct #[Field.mk "By" 3 0 false "" "" 0,Field.mk "Seq" 3 1 false "" "" 8,Field.mk "K" 3 2 false "" "" 16])) (u3:P.underlying 3=some (.int .i64)) (c34:P.cellsOf 34=3) (c3:P.cellsOf 3=1) (k34:P.keyType 34=true)
 (a b c:Int) (h:cz (a,b,c)):∃l,Go.keyOf P 34 (.agg #[.int .i64 a,.int .i64 b,.int .i64 c]) =some l:=by
 obtain ⟨n,hn⟩:∃n,P.types.size+1=n+2:=⟨P.types.size - 1,by omega⟩;have hmin:IntKind.i64.min= -9223372036854775808:=by decide
 have hmax:IntKind.i64.max=9223372036854775807:=by decide
 have hw:∀x:Int,nj x→(Lit.int .i64 x).wf=true:=fun x hx=>by
  unfold nj at hx;simp only[Lit.wf,hmin,hmax,Bool.and_eq_true,decide_eq_true_eq];omega
 have hk:P.keyLits (n+2) 34 [.int .i64 a,.int .i64 b,.int .i64 c] =some [.int .i64 a,.int .i64 b,.int .i64 c]:=by
  simp[Program.keyLits,u34,u3,c34,c3,hw a h.1,hw b h.2.1,hw c h.2.2]
 refine ⟨Lit.string (keyBytes [.int .i64 a,.int .i64 b,.int .i64 c]),?_⟩;unfold Go.keyOf;rw[u34];have hf: (Value.agg #[.int .i64 a,.int .i64 b,.int .i64 c]).formed P 34=true:=by simp[Value.formed,u34,c34]
 simp only[k34,hf,Bool.and_self,if_true,hn];have hc: (Value.agg #[.int .i64 a,.int .i64 b,.int .i64 c]).cells.toList= [.int .i64 a,.int .i64 b,.int .i64 c]:=rfl;rw[hc,hk];rfl
theorem Gr (k:TypeId)(u:Value)(h:qy k u=true):Go.Maps.Keyed Tryd.prog k∧∃l,Go.keyOf Tryd.prog k u=some l:=by
 unfold qy at h;simp only[Bool.and_eq_true,beq_iff_eq] at h;obtain ⟨rfl,h⟩:=h;refine ⟨Go.Maps.Keyed.of_law Xl,?_⟩;split at h
 . rename_i vs
   split at h
   . rename_i a b c hl
     have hv:vs= #[.int .i64 a,.int .i64 b,.int .i64 c]:=by apply Array.ext';rw[hl]
     subst hv;exact Qd Gp Gq Z6 Xj Z7 Xk a b c (of_decide_eq_true h)
   . cases h
 . cases h
def dl:List ID→List C
 | [] =>[]
 |x::M=> .val (ls x):: .val (.bool true)::dl M
theorem y0:∀ (M N:List ID),dl (M++N) =dl M++dl N
 | [],_=>rfl
 |x::M,N=>by simp only[List.cons_append,dl,y0 M N]
theorem vc (k:Nat):∀M,noRefs k (dl M) =true
 | [] =>rfl
 |x::M=>by simp only[dl,noRefs,ae,vc k M,Bool.and_self]
theorem vd (x y:ID):vq (ls x) (ls y) =some (decide (x=y)):=by
 obtain ⟨a,b,c⟩:=x;obtain ⟨a',b',c'⟩:=y;show zr [.int .i64 a,.int .i64 b,.int .i64 c] [.int .i64 a',.int .i64 b',.int .i64 c'] =_;have k:∀x y:Int,(x==y) =decide (x=y):=fun x y=>by by_cases h:x=y<;>simp[h]
 by_cases h1:a=a'<;>by_cases h2:b=b'<;>by_cases h3:c=c'<;>simp[zr,zq,k,h1,h2,h3]
def OkI (M:List ID):Prop:=M.Nodup∧∀x∈M,cz x
theorem OkI.tail {y:ID}{M:List ID}(h:OkI (y::M)):OkI M:=⟨(List.nodup_cons.1 h.1).2,fun x hx=>h.2 x (List.mem_cons_of_mem _ hx)⟩
theorem jo {cx:Cx}(hk:cx.km=qy)(x:ID):∀ (M:List ID)(i:Nat),OkI M→x∉M→fx cx 34 (ls x) (dl M) i=some none
 | [],_,_,_=>rfl
 |y::M,i,hM,h=>by
  simp only[List.mem_cons,not_or] at h;simp only[dl,fx,hk,oE (hM.2 y (List.mem_cons_self ..)),if_true,vd,decide_eq_false h.1];exact jo hk x M (i+1) hM.tail h.2
theorem kO {cx:Cx}(hk:cx.km=qy)(x:ID):∀ (M:List ID)(i:Nat),x∈M→OkI M→∃j,fx cx 34 (ls x) (dl M) i=some (some (i+j,.val (.bool true)))∧M[j]? =some x
 | [],_,h,_=>by simp at h
 |y::M,i,h,nd=>by
  obtain ⟨n1,n2⟩:=List.nodup_cons.1 nd.1;have hy:=oE (nd.2 y (List.mem_cons_self ..));by_cases e:x=y
  . subst e
    simp only[dl,fx,hk,hy,if_true,vd,decide_true,jo hk x M (i+1) nd.tail n1];exact ⟨0,rfl,rfl⟩
  . simp only[dl,fx,hk,hy,if_true,vd,decide_eq_false e]
    obtain ⟨j,h1,h2⟩:=kO hk x M (i+1) (by simpa[e] using h) nd.tail;refine ⟨j+1,?_,by simpa using h2⟩;rw[h1,show i+1+j=i+(j+1) from by omega]
theorem Cm:lz Tryd.prog 92=some (34,4):=by kernel_rfl
def nG (M:List ID)(x:ID):List ID:=if x∈M then M else M++[x]
theorem sw:∀ (M:List ID)(j:Nat)(x:ID),M[j]? =some x→(dl M).set (2*j+1) (.val (.bool true)) =dl M∧(dl M).take (2*j)++(dl M).drop (2*j+2) =dl (M.eraseIdx j)
 | [],j,x,h=>by simp at h
 |y::M,0,x,h=>by simp[dl]
 |y::M,j+1,x,h=>by
  obtain ⟨h1,h2⟩:=sw M j x (by simpa using h);rw[show 2*(j+1)+1=2*j+1+1+1 from by omega,show 2*(j+1) =2*j+1+1 from by omega,show 2*j+1+1+2=2*j+2+1+1 from by omega];simp only[dl,List.set_cons_succ,List.take_succ_cons,List.drop_succ_cons,List.cons_append,List.eraseIdx_cons_succ,h1,h2,and_self]
theorem zv4:C7 Tryd.prog 4=some (.val (.bool false)):=by kernel_rfl
theorem vU:∀ {M:List ID},M.Nodup→∀ {j:Nat}{x:ID},M[j]? =some x→M.eraseIdx j=M.erase x
 | [],_,j,x,h=>by simp at h
 |y::M,nd,0,x,h=>by
  simp at h;subst h
  rw[List.erase_cons_head,List.eraseIdx_cons_zero]
 |y::M,nd,j+1,x,h=>by
  have h:M[j]? =some x:=by simpa using h
  obtain ⟨n1,n2⟩:=List.nodup_cons.1 nd;have hx:x∈M:=List.mem_of_getElem? h;have hne:y≠x:=fun e=>n1 (e▸hx);rw[List.eraseIdx_cons_succ,List.erase_cons_tail (by simpa using hne),vU n2 h]
section
variable {cx:Cx} (hP:cx.P=Tryd.prog) (hk:cx.km=qy) {b:Nat} {h:Hp} {M:List ID} (hm:h.mp b=some (dl M)) (hM:OkI M) {x:ID} (hx:cz x)
include hP hk hm hM hx
theorem LQ:qI cx 92 b (ls x) (.val (.bool true)) h=some (.val undef,h.set b (some (dq (dl (nG M x))))):=by
 unfold qI;rw[hP,Cm];simp only[hk,oE hx,if_true,hm,Option.bind_some];by_cases e:x∈M
 . obtain ⟨j,h1,h2⟩:=kO hk x M 0 e hM
   rw[h1,Option.map_some];unfold v9 nG;simp only[Nat.zero_add,(sw M j x h2).1,if_pos e]
 . rw[jo hk x M 0 hM e,Option.map_some]
   unfold v9 nG;simp only[if_neg e,y0];rfl
theorem Z9:qJ cx 92 b (ls x) h=some (.val (.tuple #[]),h.set b (some (dq (dl (M.erase x))))):=by
 unfold qJ;rw[hP,Cm];simp only[hk,oE hx,if_true,hm,Option.bind_some];by_cases e:x∈M
 . obtain ⟨j,h1,h2⟩:=kO hk x M 0 e hM
   rw[h1,Option.map_some];unfold wa;simp only[Nat.zero_add,(sw M j x h2).2,vU hM.1 h2]
 . rw[jo hk x M 0 hM e,Option.map_some]
   unfold wa;simp only[List.erase_of_not_mem e]
theorem Gs:nS cx 92 b (ls x) false h=some (.val (.bool (decide (x∈M))),h):=by
 unfold nS;rw[hP,Cm];simp only[hk,oE hx,if_true,hm,Option.bind_some];by_cases e:x∈M
 . obtain ⟨j,h1,h2⟩:=kO hk x M 0 e hM
   rw[h1,Option.bind_some];unfold sW;rw[decide_eq_true e];rfl
 . rw[jo hk x M 0 hM e,Option.bind_some]
   unfold sW;rw[decide_eq_false e];simp only[hP,zv4,Option.map_some];rfl
end
theorem OkI.nil:OkI []:=⟨List.nodup_nil,fun x h=>by cases h⟩
theorem OkI.ins {M:List ID}(hM:OkI M){x:ID}(hx:cz x):OkI (nG M x):=by
 unfold nG;split
 . exact hM
 . rename_i e
   refine ⟨List.nodup_append.2 ⟨hM.1,by simp,fun a ha b hb=>?_⟩,fun y hy=>?_⟩
   . simp at hb;subst hb;exact fun q=>e (q▸ha)
   . rcases List.mem_append.1 hy with hy|hy
     . exact hM.2 y hy
     . simp at hy;subst hy;exact hx
theorem OkI.del {M:List ID}(hM:OkI M)(x:ID):OkI (M.erase x):=⟨hM.1.erase x,fun y hy=>hM.2 y (List.mem_of_mem_erase hy)⟩
end Go.Sx
