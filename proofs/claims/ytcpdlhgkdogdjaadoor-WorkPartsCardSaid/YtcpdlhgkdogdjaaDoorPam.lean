/-
   And what follows.
-/
import Derived.DeepKeys4
import Derived.MapViews
import Derived.Test.YtcpdlhgkdogdjaaDoorPal
import Derived.Test.YtcpdlhgkdogdjaaDoorPak
import Derived.Test.YtcpdlhgkdogdjaaDoorPaj
set_option linter.unusedSimpArgs false
set_option linter.unusedVariables false
namespace Go.Sx
open Go.RowKit Go.Proofs
set_option maxRecDepth 100000
set_option maxHeartbeats 8000000
def LI (l:List Int):Prop:=l.length≤9223372036854775807∧∀i,i< l.length→ -9223372036854775808≤gt l i∧gt l i≤9223372036854775807
theorem H5 {c:UInt8}(h1:UInt8.ofNat 97≤c)(h2:c≤UInt8.ofNat 122):c - UInt8.ofNat 97+UInt8.ofNat 65=pI c:=by
 unfold pI;exact (if_pos (c:=97≤c∧c≤122) ⟨h1,h2⟩).symm
theorem H6 {c:UInt8}(h:¬ (UInt8.ofNat 97≤c∧c≤UInt8.ofNat 122)):c=pI c:=by
 unfold pI;exact (if_neg h).symm
theorem Ak {w:List UInt8}(h:0< w.length):w.set 0 (pI (gt w 0)) =kF w:=by
 cases w with
 |nil=>simp at h
 |cons c r=>rfl
theorem H7 {w:List UInt8}(h:¬ (UInt8.ofNat 97≤gt w 0∧gt w 0≤UInt8.ofNat 122)):w=kF w:=by
 cases w with
 |nil=>rfl
 |cons c r=>exact congrArg (fun z=>z::r) (H6 h)
theorem j8 (w:List UInt8): (kF w).length=w.length:=by cases w<;>rfl
theorem j9 {x y:List UInt8}(h:x=y): (some (C.val (str x))) =some (C.val (str y)):=by rw[h]
theorem H8 (i:Nat): (gt wlist i).length≤4:=by
 by_cases h:i< 9
 . have:=oG wlist (fun c=>decide (c.length≤4)) (by decide) i h
   simpa using this
 . have e:gt wlist i= []:=by
    unfold gt List.getD;rw[List.getElem?_eq_none (by show 9≤i;omega)];rfl
   rw[e];decide
theorem Al:sl sC .full ((((((((((List.replicate 9 []).set 0 [97,110,110,97]).set 1 [114,111,109,101]).set 2 [107,105,110,103]).set 3 [116,104,101]).set 4 [111,102]).set 5 [111,100,101]).set 6 [108,121,114,101]).set 7 [120]).set 8 [49,50]) =sl sC .full wlist:=rfl
theorem rL:wlist.length=9:=rfl
theorem tY (l:List Int)(k i:Nat)(h:0< i):dI l k (i+1) =dI l k i++[32]++gg (bR l (k+1+i) 108):=by rw[dI,if_pos h]
theorem tZ (l:List Int)(k i:Nat)(h:¬0< i):dI l k (i+1) =dI l k i++gg (bR l (k+1+i) 108):=by rw[dI,if_neg h]
theorem Am (w:List UInt8)(n:Nat): (jq w n).length≤w.length+2:=by
 unfold jq
 repeat' split
 all_goals (try simp only[List.length_append,List.length_cons,List.length_nil,j8])
 all_goals omega
theorem kV {p:Prop}(e:p:=by intro KZ hZ;simp -implicitDefEqProofs (disch:=first|omega| (simp only[go_sem,lA,lD,lT] <;>omega) |decide) only[go_sem,↓reduceIte,Nat.reduceEqDiff,reduceCtorEq,Nat.reduceLT,Nat.reduceBEq,Nat.reduceAdd,hy];with_reducible exact hZ):p:=e
theorem w9 {p:Prop}(e:p:=by simp -implicitDefEqProofs (disch:=first|omega| (simp only[go_sem,lA,lD,lT] <;>omega) |decide) only[go_sem,↓reduceIte,Nat.reduceEqDiff,reduceCtorEq];all_goals (exact congrArg (fun z=>some (C.val (.int .i64 z))) (by rw[oF];first| (rw[if_pos (by omega)];rfl) |rw[if_neg (by omega)]))):p:=e
theorem PF {gl:Nat→C}{M:Nat}{pu:Nat→List C→Option C}(hcx:CxOK (aS gl M pu))(n:Int)(m:Nat)(hn: -9223372036854775808≤n∧n≤9223372036854775807∧0< m∧m≤9223372036854775807):FC Tryd.prog gl 19 [.val (.int .i64 n),.val (nI m)] [] (.val (nI (dQ n m))) []:=by
 replace hcx:=hcx.reN (M:=13)
 refine cf (cx:=aS gl 13 pu) (rs:=[.tmp 4]) rfl Tryd.func19 rfl rfl rfl (by simp only[List.length_cons,List.length_nil];decide) (by simp only[go_sem]) ?_
 simp only[dm,go_sem]
 have hy:=True.intro
 refine Tr.w hcx [] _ [] rfl rfl rfl ?_ kV
 refine af fun K1 hK1=>?_
 refine Tr.w hcx [] _ [] rfl rfl rfl ?_ kV
 refine bc rfl (fun hc6=>?_) (fun hc6=>?_)
 ·
  refine Tr.v hcx [1000009] _ [] rfl rfl rfl ?_ kV
  refine hK1 _ ?_
  refine Tr.w hcx [1000012] _ [] rfl rfl rfl ?_ kV
  exact Tr.ret w9
 refine Tr.skip ?_
 refine hK1 _ ?_
 refine Tr.w hcx [1000012] _ [] rfl rfl rfl ?_ kV
 exact Tr.ret w9
theorem nT {p:Prop}(e:p:=by intro KZ hZ;simp -implicitDefEqProofs (disch:=first|omega| (simp only[go_sem,lA,lD,lT] <;>omega) |decide) only[go_sem,↓reduceIte,Nat.reduceEqDiff,reduceCtorEq,Nat.reduceLT,Nat.reduceBEq,Nat.reduceAdd,h19,Nat.not_lt_zero,hy];with_reducible exact hZ):p:=e
theorem xa {p:Prop}(e:p:=by simp -implicitDefEqProofs (disch:=first|omega| (simp only[go_sem,lA,lD,lT] <;>omega) |decide) only[go_sem,↓reduceIte,Nat.reduceEqDiff,reduceCtorEq];all_goals (exact congrArg (fun z=>some (C.val (nI z))) (by unfold bR;first|rw[if_pos hc14] |rw[if_neg hc14]))):p:=e
theorem PH {gl:Nat→C}{M:Nat}{pu:Nat→List C→Option C}(hcx:CxOK (aS gl M pu))(h19:∀ (n:Int) (m:Nat),-9223372036854775808≤n∧n≤9223372036854775807∧0< m∧m≤9223372036854775807→pu 19 [.val (.int .i64 n),.val (nI m)] =some (.val (nI (dQ n m))))(l:List Int)(i m:Nat)(hl:LI l)(hi:i≤1000000)(hm:0< m∧m≤9223372036854775807):FC Tryd.prog gl 65 [sl iC .no l,.val (nI i),.val (nI m)] [] (.val (nI (bR l i m))) []:=by
 replace hcx:=hcx.reN (M:=21)
 refine cf (cx:=aS gl 21 pu) (rs:=[.tmp 6]) rfl Tryd.func65 rfl rfl rfl (by simp only[List.length_cons,List.length_nil];decide) (by simp only[go_sem]) ?_
 simp only[dm,go_sem]
 have hy:=True.intro
 have hl1:=hl.1
 refine Tr.w hcx [] _ [] rfl rfl rfl ?_ nT
 refine af fun K1 hK1=>?_
 refine Tr.w hcx [] [some 7,some 8,some 9,some 10,some 11,some 12,some 13,some 14] [] rfl rfl rfl ?_ nT
 refine bc rfl (fun hc14=>?_) (fun hc14=>?_)
 ·
  refine Tr.w hcx [] _ [] rfl rfl rfl ?_ nT
  exact Tr.ret xa
 have hb1:=hl.2 i (by omega)
 refine Tr.skip ?_
 refine hK1 _ ?_
 refine Tr.w hcx [1000020] _ [] rfl rfl rfl ?_ nT
 exact Tr.ret xa
theorem eR {p:Prop}(e:p:=by intro KZ hZ;simp -implicitDefEqProofs (disch:=first|omega| (simp only[go_sem,lA,lD,lT] <;>omega) |decide) only[go_sem,↓reduceIte,Nat.reduceEqDiff,reduceCtorEq,Nat.reduceLT,Nat.reduceBEq,Nat.reduceAdd,Nat.zero_add,Nat.mul_one,Nat.zero_mul,b1,b2,b3,hy];with_reducible exact hZ):p:=e
theorem l5 {p:Prop}(e:p:=by simp -implicitDefEqProofs (disch:=first|omega| (simp only[go_sem,lA,lD,lT] <;>omega) |decide) only[go_sem,↓reduceIte,Nat.reduceEqDiff,reduceCtorEq];all_goals (first|exact j9 (by rw[H5 b2 b3,Ak b1,List.take_of_length_le (by rw[j8];exact Nat.le_refl _)]) |exact j9 (by rw[←H7 (by intro hh;first|exact b2 hh.1|exact b3 hh.2),List.take_length]) |exact j9 (by cases w with|nil=>rfl|cons c r=>exact absurd (Nat.succ_pos _) b1))):p:=e
theorem Nl {gl:Nat→C}{M:Nat}{pu:Nat→List C→Option C}(hcx:CxOK (aS gl M pu))(w:List UInt8)(hw:w.length≤1000000):FC Tryd.prog gl 121 [.val (str w)] [] (.val (str (kF w))) []:=by
 replace hcx:=hcx.reN (M:=30)
 refine cf (cx:=aS gl 30 pu) (rs:=[.tmp 2]) rfl Tryd.func121 rfl rfl rfl (by simp only[List.length_cons,List.length_nil];decide) (by simp only[go_sem]) ?_
 simp only[dm,go_sem]
 have b1:=True.intro
 have b2:=True.intro
 have b3:=True.intro
 have hy:=True.intro
 refine Tr.w hcx [] _ [] rfl rfl rfl ?_ eR
 refine vV hcx [5] [1000005] _ [] rfl rfl rfl ?_ eR
 refine af fun K1 hK1=>?_
 by_cases b1:0< w.length
 ·
  by_cases b2:UInt8.ofNat 97≤gt w 0
  ·
   by_cases b3:gt w 0≤UInt8.ofNat 122
   ·
    refine Tr.w hcx [] [some 6,some 7,some 8,some 9,some 10,some 11,some 12,some 13,some 14,some 15,some 16,some 17,some 18,some 19,some 20] [] rfl rfl rfl ?_ eR
    refine bh rfl ?_
    refine Tr.v hcx [] _ [] rfl rfl rfl ?_ eR
    refine hK1 _ ?_
    refine Tr.k [3] ?_
    refine Tr.w hcx [1000029] _ [] rfl rfl rfl ?_ eR
    exact Tr.ret l5
   refine Tr.w hcx [] [some 6,some 7,some 8,some 9,some 10,some 11,some 12,some 13,some 14,some 15,some 16,some 17,some 18,some 19,some 20] [] rfl rfl rfl ?_ eR
   refine au rfl ?_
   refine Tr.skip ?_
   refine hK1 _ ?_
   refine Tr.w hcx [1000029] _ [] rfl rfl rfl ?_ eR
   exact Tr.ret l5
  refine Tr.w hcx [] [some 6,some 7,some 8,some 9,some 10,some 11,some 12,some 13,some 14,some 15,some 16,some 17,some 18,some 19,some 20] [] rfl rfl rfl ?_ eR
  refine au rfl ?_
  refine Tr.skip ?_
  refine hK1 _ ?_
  refine Tr.w hcx [1000029] _ [] rfl rfl rfl ?_ eR
  exact Tr.ret l5
 refine Tr.w hcx [] [some 6,some 7,some 8,some 9,some 10,some 11,some 12,some 13,some 14,some 15,some 16,some 17,some 18,some 19,some 20] [] rfl rfl rfl ?_ eR
 refine au rfl ?_
 refine Tr.skip ?_
 refine hK1 _ ?_
 refine Tr.w hcx [1000029] _ [] rfl rfl rfl ?_ eR
 exact Tr.ret l5
theorem dR {p:Prop}(e:p:=by intro KZ hZ;simp -implicitDefEqProofs (disch:=first|omega| (simp only[go_sem,lA,lD,lT,j8] <;>omega) |decide) only[go_sem,↓reduceIte,Nat.reduceEqDiff,reduceCtorEq,Nat.reduceLT,Nat.reduceBEq,Nat.reduceAdd,h121,hy];with_reducible exact hZ):p:=e
theorem gP {p:Prop}(e:p:=by simp -implicitDefEqProofs (disch:=first|omega| (simp only[go_sem,lA,lD,lT,j8] <;>omega) |decide) only[go_sem,↓reduceIte,Nat.reduceEqDiff,reduceCtorEq];all_goals (exact j9 (by unfold jq;simp_all))):p:=e
theorem Nm {gl:Nat→C}{M:Nat}{pu:Nat→List C→Option C}(hcx:CxOK (aS gl M pu))(h121:∀w:List UInt8,w.length≤1000000→pu 121 [.val (str w)] =some (.val (str (kF w))))(w:List UInt8)(n:Nat)(hw:w.length≤1000000)(hn:n≤1000000):FC Tryd.prog gl 101 [.val (str w),.val (nI n)] [] (.val (str (jq w n))) []:=by
 replace hcx:=hcx.reN (M:=33)
 refine cf (cx:=aS gl 33 pu) (rs:=[.tmp 4]) rfl Tryd.func101 rfl rfl rfl (by simp only[List.length_cons,List.length_nil];decide) (by simp only[go_sem]) ?_
 simp only[dm,go_sem]
 have hy:=True.intro
 refine Tr.w hcx [] _ [] rfl rfl rfl ?_ dR
 refine af fun K1 hK1=>?_
 refine Tr.w hcx [] _ [] rfl rfl rfl ?_ dR
 refine ax ?_
 refine Tr.w hcx [1000007] _ [] rfl rfl rfl ?_ dR
 refine bc rfl (fun hc6=>?_) (fun hc6=>?_)
 ·
  refine Tr.w hcx [1000009] _ [] rfl rfl rfl ?_ dR
  exact Tr.ret gP
 refine Tr.w hcx [1000011] _ [] rfl rfl rfl ?_ dR
 refine bc rfl (fun hc10=>?_) (fun hc10=>?_)
 ·
  refine Tr.w hcx [1000013] _ [] rfl rfl rfl ?_ dR
  exact Tr.ret gP
 refine Tr.w hcx [1000015] _ [] rfl rfl rfl ?_ dR
 refine bc rfl (fun hc14=>?_) (fun hc14=>?_)
 ·
  refine Tr.w hcx [1000017] _ [] rfl rfl rfl ?_ dR
  exact Tr.ret gP
 refine Tr.w hcx [1000019] _ [] rfl rfl rfl ?_ dR
 refine bc rfl (fun hc18=>?_) (fun hc18=>?_)
 ·
  refine Tr.w hcx [1000022] _ [] rfl rfl rfl ?_ dR
  exact Tr.ret gP
 refine Tr.w hcx [1000024] _ [] rfl rfl rfl ?_ dR
 refine bc rfl (fun hc23=>?_) (fun hc23=>?_)
 ·
  refine Tr.w hcx [1000027] _ [] rfl rfl rfl ?_ dR
  exact Tr.ret gP
 refine Tr.w hcx [1000029] _ [] rfl rfl rfl ?_ dR
 refine bc rfl (fun hc28=>?_) (fun hc28=>?_)
 ·
  refine Tr.w hcx [1000031] _ [] rfl rfl rfl ?_ dR
  exact Tr.ret gP
 refine Tr.skip ?_
 refine hK1 _ ?_
 refine Tr.w hcx [1000032] _ [] rfl rfl rfl ?_ dR
 exact Tr.ret gP
theorem eD {p:Prop}(e:p:=by intro KZ hZ;simp -implicitDefEqProofs (disch:=first|omega| (simp only[go_sem,lA,lD,lT,hb1,rL] <;>omega) |decide) only[go_sem,↓reduceIte,Nat.reduceEqDiff,reduceCtorEq,Nat.reduceLT,Nat.reduceBEq,Nat.reduceAdd,h65',h101,Al,hy];with_reducible exact hZ):p:=e
theorem H9 {p:Prop}(e:p:=by simp -implicitDefEqProofs (disch:=first|omega| (simp only[go_sem,lA,lD,lT,hb1,rL] <;>omega) |decide) only[go_sem,↓reduceIte,Nat.reduceEqDiff,reduceCtorEq];all_goals (rfl)):p:=e
theorem PI {gl:Nat→C}{M:Nat}{pu:Nat→List C→Option C}(hcx:CxOK (aS gl M pu))(h65:∀ (l:List Int) (i m:Nat),LI l→i≤1000000∧0< m∧m≤9223372036854775807→pu 65 [sl iC .no l,.val (nI i),.val (nI m)] =some (.val (nI (bR l i m))))(h101:∀ (w:List UInt8) (n:Nat),w.length≤1000000∧n≤1000000→pu 101 [.val (str w),.val (nI n)] =some (.val (str (jq w n))))(l:List Int)(k:Nat)(hl:LI l)(hk:k≤1000):FC Tryd.prog gl 66 [sl iC .no l,.val (nI k)] [] (.val (str (fj l k))) []:=by
 replace hcx:=hcx.reN (M:=41)
 refine cf (cx:=aS gl 41 pu) (rs:=[.tmp 4]) rfl Tryd.func66 rfl rfl rfl (by simp only[List.length_cons,List.length_nil];decide) (by simp only[go_sem]) ?_
 simp only[dm,go_sem]
 have hy:=True.intro
 have h65':=fun i m=>h65 l i m hl
 have hb0:=dO l k (m:=9) (by decide)
 have hb1:=True.intro
 refine Tr.w hcx [] _ [] rfl rfl rfl ?_ eD
 refine Tr.w hcx [1000010] _ [] rfl rfl rfl ?_ eD
 refine Tr.w hcx [] _ [] rfl rfl rfl ?_ eD
 refine af fun K1 hK1=>?_
 refine Tr.w hcx [] _ [] rfl rfl rfl ?_ eD
 refine Tr.k [0,1,5,6,7] ?_
 refine ax ?_
 refine bz (α:=Nat) (fun a=>[(0,?v0_1),(1,?v1_1),(5,?v5_1),(6,.val (str (dI l k a))),(7,.val (nI a))]) (fun a=>?h_1) (fun a=>a≤1+bR l k 9) (fun a=>1+bR l k 9 - a) (0) ?_ ?le_1 ?hh_1 ?bd_1
 case hh_1=>exact rfl
 case le_1=>exact LT
 . omega
 rintro i hi
 have hb1:=zi l k i
 have hb2:=dO l (k+1+i) (m:=108) (by decide)
 have hb3:=H8 (bR l (k+1+i) 108 % 9)
 have hb4:=Am (gt wlist (bR l (k+1+i) 108 % 9)) (bR l (k+1+i) 108 / 9)
 have hb5:=Nat.mod_lt (bR l (k+1+i) 108) (show 9>0 by decide)
 refine af fun K2 hK2=>?_
 refine Tr.w hcx [] _ [] rfl rfl rfl ?_ eD
 refine bc rfl (fun hc16=>?_) (fun hc16=>?_)
 ·
  refine Tr.skip ?_
  refine hK2 _ ?_
  refine af fun K3 hK3=>?_
  refine ax ?_
  refine Tr.w hcx [1000024] _ [] rfl rfl rfl ?_ eD
  refine Tr.k [0,1,5,6,7,8] ?_
  refine Tr.w hcx [1000032] _ [] rfl rfl rfl ?_ eD
  refine af fun K4 hK4=>?_
  refine Tr.w hcx [] _ [] rfl rfl rfl ?_ eD
  refine bc rfl (fun hc34=>?_) (fun hc34=>?_)
  ·
   refine Tr.v hcx [1000036] _ [] rfl rfl rfl ?_ eD
   refine hK4 _ ?_
   refine Tr.v hcx [1000039] _ [] rfl rfl rfl ?_ eD
   refine hK3 _ ?_
   refine Tr.k [0,1,5,6,7] ?_
   refine Tr.v hcx [1000018] _ [] rfl rfl rfl ?_ eD
   refine ⟨i+1,⟨by omega,O1⟩,?_,rfl⟩
   (simp only[dz,cU,↓cV,↓reduceIte,Nat.reduceEqDiff,cC,db,cE,dc,dg,and_true,true_and];all_goals (repeat' first|exact CLe.refl _|exact True.intro| (refine bS ?_;first|rfl| (simp only[List.take_zero];done)) |exact dE (by omega) |exact dA (by omega) |exact dB (by omega) |exact dD (by omega) |with_reducible apply And.intro))
   all_goals first| (rw[tY l k i hc34];exact CLe.refl _) | (rw[tZ l k i hc34];exact CLe.refl _)
  refine Tr.skip ?_
  refine hK4 _ ?_
  refine Tr.v hcx [1000039] _ [] rfl rfl rfl ?_ eD
  refine hK3 _ ?_
  refine Tr.v hcx [1000018] _ [] rfl rfl rfl ?_ eD
  refine ⟨i+1,⟨by omega,O1⟩,?_,rfl⟩
  (simp only[dz,cU,↓cV,↓reduceIte,Nat.reduceEqDiff,cC,db,cE,dc,dg,and_true,true_and];all_goals (repeat' first|exact CLe.refl _|exact True.intro| (refine bS ?_;first|rfl| (simp only[List.take_zero];done)) |exact dE (by omega) |exact dA (by omega) |exact dB (by omega) |exact dD (by omega) |with_reducible apply And.intro))
  all_goals first| (rw[tY l k i hc34];exact CLe.refl _) | (rw[tZ l k i hc34];exact CLe.refl _)
 obtain rfl:i=1+bR l k 9:=by omega
 refine Tr.exit ?_
 refine hK1 _ ?_
 refine Tr.w hcx [1000040] _ [] rfl rfl rfl ?_ eD
 exact Tr.ret H9
end Go.Sx
namespace Go.Sx
open Go.RowKit Go.Proofs
theorem lW {β:Type}(F:Nat→List β)(v:Nat): ((List.range (v+1)).flatMap F).length= ((List.range v).flatMap F).length+(F v).length:=by
 rw[List.range_succ,List.flatMap_append,List.length_append];simp
theorem wc {β:Type}(F:Nat→List β)(v:Nat):∀d,((List.range v).flatMap F).length≤((List.range (v+d)).flatMap F).length
 |0=>Nat.le_refl _
 |d+1=>Nat.le_trans (wc F v d) (by rw[←Nat.add_assoc,lW];omega)
theorem zw {β:Type}[Inhabited β](F:Nat→List β)(v j:Nat)(hj:j< (F v).length):∀d,gt ((List.range (v+1+d)).flatMap F) (((List.range v).flatMap F).length+j) =gt (F v) j
 |0=>by
  rw[Nat.add_zero,List.range_succ,List.flatMap_append]
  simp only[gt,List.getD]
  rw[List.getElem?_append_right (by omega),Nat.add_sub_cancel_left];simp
 |d+1=>by
  rw[←Nat.add_assoc,List.range_succ,List.flatMap_append]
  have h:=zw F v j hj d
  have h1:=wc F (v+1) d
  rw[lW] at h1
  simp only[gt,List.getD] at h ⊢
  rw[List.getElem?_append_left (by omega)];exact h
theorem zx {β:Type}[Inhabited β](F:Nat→List β)(n v j:Nat)(hv:v< n)(hj:j< (F v).length):gt ((List.range n).flatMap F) (((List.range v).flatMap F).length+j) =gt (F v) j∧((List.range v).flatMap F).length+j< ((List.range n).flatMap F).length:=by
 obtain ⟨d,rfl⟩:∃d,n=v+1+d:=⟨n - (v+1),by omega⟩
 refine ⟨zw F v j hj d,?_⟩
 have:=wc F (v+1) d
 rw[lW] at this;omega
abbrev Rd:=(Nat×Nat×Nat)×aN
def jY (v a:Nat)(l:List aN):List Rd:=(List.range l.length).map fun i=>((v,a,i),gt l i)
def uQ (v:Nat)(l:bY):List Rd:=(List.range l.length).flatMap fun a=>jY v a (gt l a).2
def aK (w:aj):List Rd:=(List.range w.length).flatMap fun v=>uQ v (gt w v)
def oA (v:Nat)(l:bY)(a:Nat):Nat:=((List.range a).flatMap fun a=>jY v a (gt l a).2).length
def oV (w:aj)(v:Nat):Nat:=((List.range v).flatMap fun v=>uQ v (gt w v)).length
theorem pP (v a:Nat)(l:List aN): (jY v a l).length=l.length:=by simp[jY]
theorem zy (v a:Nat)(l:List aN)(i:Nat)(h:i< l.length):gt (jY v a l) i= ((v,a,i),gt l i):=by
 simp[jY,gt,List.getD,List.getElem?_map,List.getElem?_range h]
theorem LU (v:Nat)(l:bY):oA v l 0=0:=rfl
theorem Qd (w:aj):oV w 0=0:=rfl
theorem LV (v:Nat)(l:bY)(a:Nat):oA v l (a+1) =oA v l a+(gt l a).2.length:=by unfold oA;rw[lW,pP]
theorem LW (v:Nat)(l:bY):oA v l l.length= (uQ v l).length:=rfl
theorem LX (w:aj)(v:Nat):oV w (v+1) =oV w v+(uQ v (gt w v)).length:=by unfold oV;rw[lW]
theorem LY (w:aj):oV w w.length= (aK w).length:=rfl
theorem oT (w:aj)(v a i:Nat)(hv:v< w.length)(ha:a< (gt w v).length)(hi:i< (gt (gt w v) a).2.length):
 gt (aK w) (oV w v+(oA v (gt w v) a+i)) = ((v,a,i),gt (gt (gt w v) a).2 i)∧oV w v+(oA v (gt w v) a+i) < (aK w).length:=by
 have h1:=zx (fun a=>jY v a (gt (gt w v) a).2) (gt w v).length a i ha (by rw[pP];exact hi)
 have h2:=zx (fun v=>uQ v (gt w v)) w.length v (oA v (gt w v) a+i) hv h1.2
 refine ⟨h2.1.trans (h1.1.trans (zy _ _ _ _ hi)),h2.2⟩
end Go.Sx
namespace Go.Sx
open Go.RowKit Go.Proofs
set_option maxRecDepth 100000
set_option maxHeartbeats 8000000
theorem e6 {p:Prop}(e:p:=by intro KZ hZ;simp -implicitDefEqProofs (disch:=first|omega| (simp only[go_sem,lA,lD,lT] <;>omega) |decide) only[go_sem,↓reduceIte,Nat.reduceEqDiff,reduceCtorEq,Nat.reduceLT,Nat.reduceBEq,Nat.reduceAdd,ss,List.append_nil];with_reducible exact hZ):p:=e
theorem Ms {p:Prop}(e:p:=by intro c k KZ hZ;simp -implicitDefEqProofs (disch:=first|omega|decide) only[go_sem,↓reduceIte,Nat.reduceEqDiff,reduceCtorEq,Nat.reduceLT,Nat.reduceBEq,Nat.reduceAdd];with_reducible exact hZ):p:=e
theorem gM {p:Prop}(e:p:=by intro RZ hZ;simp only[ul,ye,↓cV,↓reduceIte,Nat.reduceEqDiff,reduceCtorEq];exact hZ):p:=e
theorem FZ {p:Prop}(e:p:=by (repeat' (first|exact True.intro| (refine ⟨rfl,.inl ⟨rfl,by first|rfl|exact aI _ _ _ _⟩,?_⟩) | (refine ⟨rfl,.inr ⟨_,rfl,rfl⟩,?_⟩)))):p:=e
def qM (w:aj)(i:Nat):List C:=[.agg [.val (nI (gt (aK w) i).1.1),.val (nI (gt (aK w) i).1.2.1),.val (nI (gt (aK w) i).1.2.2)],.agg (pC (gt (aK w) i).2)]
def WB (w:aj):Prop:=w.length< 1099511627776∧(∀v,v< w.length→(gt w v).length< 1099511627776)∧∀v a,v< w.length→a< (gt w v).length→(gt (gt w v) a).2.length< 1099511627776
theorem tA {gl:Nat→C}{M:Nat}{pu:Nat→List C→Option C}(hcx:CxOK (aS gl M pu))(w:aj)(hw:WB w):
 ItrB Tryd.prog gl 93 [.kp [sl vC .no w]] (aK w).length (qM w) RowN:=by
 replace hcx:=hcx.reN (M:=44)
 refine ItrB.of (cx:=aS gl 44 pu) rfl Tryd.func93 rfl rfl rfl (by simp only[List.length_cons,List.length_nil];decide) ?_
 intro n l0 rec G I B h Y hY hst h0 hR
 have ss:=True.intro
 have hw1:=hw.1
 simp only[dm,go_sem]
 refine TrY.w hcx [] _ [] rfl rfl rfl ?_ e6
 refine TrY.block ?_
 refine TrY.loop (fun m s=> ∃v,v≤w.length∧m=w.length - v∧I (oV w v) s.h∧Le s.env [(0,.val (.func (.yield l0) #[] #[])),(10,sl vC .no w),(11,.val (nI w.length)),(12,.val (nI v))]) w.length ⟨0,Nat.zero_le _,rfl,h0,LT⟩ ?_
 rintro m s ⟨v,hv,rfl,hIv,hle⟩
 refine TrY.live _ hle ?_
 generalize s.h=k at hIv ⊢
 refine TrY.w hcx [] _ [] rfl rfl rfl ?_ e6
 by_cases hc:v< w.length
 . refine TrY.seq (TrY.cond (b:=true) (by rw[eX];exact congrArg (fun b=>C.val (.bool b)) (decide_eq_true hc)) ?_)
   refine fh (Tr.skip (Q:=fun x s'=>x= .normal∧s'=_) ⟨rfl,rfl⟩) ?_
   rintro x s' ⟨rfl,rfl⟩
   refine ⟨fun _=>?_,fun c=>absurd rfl c⟩
   refine TrY.k [0,10,11,12] ?_ gM
   refine TrY.seq (TrY.block ?_)
   have hk:=hR _ k hIv
   obtain ⟨V,hV⟩:∃V,gt w v=V:=⟨_,rfl⟩
   have hVl:=hw.2.1 v hc
   rw[hV] at hVl
   have ss:=hV
   refine TrY.w hcx [1000014] _ [none] rfl rfl rfl ?_ e6
   refine TrY.w hcx [] _ [] rfl rfl rfl ?_ e6
   refine TrY.k [0,3,10,11,12,18,19,20] ?_ gM
   refine uF hcx hk (a9 vC 0 V) (uK V) (by simp only[List.all_cons,List.all_nil,aV,aI,Bool.and_self]) ?_
   refine TrY.block ?_
   refine TrY.loop (fun m s=> ∃a,a≤V.length∧m=V.length - a∧I (oV w v+oA v V a) s.h∧Le s.env [(0,.val (.func (.yield l0) #[] #[])),(3,.val (nI v)),(10,sl vC .no w),(11,.val (nI w.length)),(12,.val (nI v)),(18,sl aC .no V),(19,.val (nI V.length)),(20,.val (nI a))]) V.length ⟨0,Nat.zero_le _,rfl,by rw[LU];exact hIv,LT⟩ ?_
   rintro m s ⟨a,ha,rfl,hIa,hle⟩
   refine TrY.live _ hle ?_
   generalize s.h=k2 at hIa ⊢
   refine TrY.w hcx [] _ [] rfl rfl rfl ?_ e6
   by_cases hca:a< V.length
   . refine TrY.seq (TrY.cond (b:=true) (by rw[eX];exact congrArg (fun b=>C.val (.bool b)) (decide_eq_true hca)) ?_)
     refine fh (Tr.skip (Q:=fun x s'=>x= .normal∧s'=_) ⟨rfl,rfl⟩) ?_
     rintro x s' ⟨rfl,rfl⟩
     refine ⟨fun _=>?_,fun c=>absurd rfl c⟩
     refine TrY.k [0,3,10,11,12,18,19,20] ?_ gM
     refine TrY.seq (TrY.block ?_)
     have hk2:=hR _ k2 hIa
     obtain ⟨L,hL⟩:∃L,(gt V a).2=L:=⟨_,rfl⟩
     have hLl:=hw.2.2 v a hc (by rw[hV];exact hca)
     rw[hV,hL] at hLl
     have ss:=And.intro hV hL
     refine TrY.w hcx [1000022] _ [none] rfl rfl rfl ?_ e6
     refine TrY.w hcx [] _ [] rfl rfl rfl ?_ e6
     refine TrY.k [0,3,5,10,11,12,18,19,20,26,27,28] ?_ gM
     refine uF hcx hk2 (a9 aC 0 (gt V a)) (uJ (gt V a)) (by simp only[List.all_cons,List.all_nil,aV,aI,Bool.and_self]) ?_
     refine TrY.block ?_
     refine TrY.loop (fun m s=> ∃i,i≤L.length∧m=L.length - i∧I (oV w v+(oA v V a+i)) s.h∧Le s.env [(0,.val (.func (.yield l0) #[] #[])),(3,.val (nI v)),(5,.val (nI a)),(10,sl vC .no w),(11,.val (nI w.length)),(12,.val (nI v)),(18,sl aC .no V),(19,.val (nI V.length)),(20,.val (nI a)),(26,sl pC .no L),(27,.val (nI L.length)),(28,.val (nI i))]) L.length ⟨0,Nat.zero_le _,rfl,hIa,LT⟩ ?_
     rintro m s ⟨i,hi,rfl,hIi,hle⟩
     refine TrY.live _ hle ?_
     generalize s.h=k3 at hIi ⊢
     refine TrY.w hcx [] _ [] rfl rfl rfl ?_ e6
     by_cases hci:i< L.length
     . refine TrY.seq (TrY.cond (b:=true) (by rw[eX];exact congrArg (fun b=>C.val (.bool b)) (decide_eq_true hci)) ?_)
       refine fh (Tr.skip (Q:=fun x s'=>x= .normal∧s'=_) ⟨rfl,rfl⟩) ?_
       rintro x s' ⟨rfl,rfl⟩
       refine ⟨fun _=>?_,fun c=>absurd rfl c⟩
       refine TrY.k [0,3,5,10,11,12,18,19,20,26,27,28] ?_ gM
       refine TrY.seq (TrY.block ?_)
       have hk3:=hR _ k3 hIi
       have hg:=oT w v a i hc (by rw[hV];exact hca) (by rw[hV,hL];exact hci)
       rw[hV,hL] at hg
       refine TrY.w hcx [1000030] _ [none] rfl rfl rfl ?_ e6
       refine TrY.k [0,3,5,7,8,10,11,12,18,19,20,26,27,28] ?_ gM
       refine uE hcx [(0,.val (.func (.yield l0) #[] #[])),(3,.val (nI v)),(5,.val (nI a)),(7,.val (nI i)),(8,.kp (pC (gt L i))),(10,sl vC .no w),(11,.val (nI w.length)),(12,.val (nI v)),(18,sl aC .no V),(19,.val (nI V.length)),(20,.val (nI a)),(26,sl pC .no L),(27,.val (nI L.length)),(28,.val (nI i))] (pC (gt L i)) hk3 (a9 pC 0 (gt L i)) (uI _) rfl FZ ?_
       refine Kf hcx hY 6 rfl (show 39< 44 by decide) rfl [] _ rfl rfl (fun post hp=>hst _ k3 post hg.2 hIi hp) e6 rfl ?_ Ms ?_ ?_
       . unfold qM;rw[hg.1];rfl
       . intro k4 hk4
         refine TrY.cond (b:=false) rfl ?_
         refine fh (Tr.skip (Q:=fun x s'=>x= .normal∧s'=_) ⟨rfl,rfl⟩) ?_
         rintro x s' ⟨rfl,rfl⟩
         refine ⟨fun _=>?_,fun c=>absurd rfl c⟩
         refine TrY.k [0,3,5,10,11,12,18,19,20,26,27,28] ?_ gM
         refine TrY.v hcx [] _ [] rfl rfl rfl ?_ e6
         exact ⟨rfl,L.length - (i+1),by omega,i+1,by omega,rfl,hk4,LT⟩
       . intro j k4 hk4
         exact bh rfl (Tr.ret hk4)
     . refine TrY.seq (TrY.cond (b:=false) (by rw[eX];exact congrArg (fun b=>C.val (.bool b)) (decide_eq_false hci)) ?_)
       refine fh (Tr.exit (Q:=fun x s'=>x= .exit 4∧s'=_) ⟨rfl,rfl⟩) ?_
       rintro x s' ⟨rfl,rfl⟩
       obtain rfl:i=L.length:=by omega
       refine ⟨fun _=>?_,fun c=>absurd rfl c⟩
       refine TrY.k [0,3,10,11,12,18,19,20] ?_ gM
       refine TrY.v hcx [] _ [] rfl rfl rfl ?_ e6
       exact ⟨rfl,V.length - (a+1),by omega,a+1,by omega,rfl,by rw[LV,hL];exact hIi,LT⟩
   . refine TrY.seq (TrY.cond (b:=false) (by rw[eX];exact congrArg (fun b=>C.val (.bool b)) (decide_eq_false hca)) ?_)
     refine fh (Tr.exit (Q:=fun x s'=>x= .exit 2∧s'=_) ⟨rfl,rfl⟩) ?_
     rintro x s' ⟨rfl,rfl⟩
     obtain rfl:a=V.length:=by omega
     refine ⟨fun _=>?_,fun c=>absurd rfl c⟩
     refine TrY.k [0,10,11,12] ?_ gM
     refine TrY.v hcx [] _ [] rfl rfl rfl ?_ e6
     exact ⟨rfl,w.length - (v+1),by omega,v+1,by omega,rfl,by rw[LX,hV,←LW];exact hIa,LT⟩
 . refine TrY.seq (TrY.cond (b:=false) (by rw[eX];exact congrArg (fun b=>C.val (.bool b)) (decide_eq_false hc)) ?_)
   refine fh (Tr.exit (Q:=fun x s'=>x= .exit 0∧s'=_) ⟨rfl,rfl⟩) ?_
   rintro x s' ⟨rfl,rfl⟩
   obtain rfl:v=w.length:=by omega
   rw[LY] at hIv
   exact hIv
theorem RowN.c {n:Nat}{h:Hp}{l:List C}(H:RowN n h)(h1:noRefs 0 l=true)(h2:aQ (some l) =some l):RowN (n+1) (some l::h):=
 ⟨by simp[H.len],by rw[g0,h1,H.nr];rfl,fun j hj=>by
   cases j with
   |zero=>left;rw[sc,h2];rfl
   |succ j=>
    have:=H.lv j (by omega)
    rw[np,nE]
    simpa using this⟩
noncomputable def pW (gl:Nat→C)(M:Nat)(pu:Nat→List C→Option C):Cx:= { aS gl M pu with top:=false }
section
variable {gl:Nat→C} {M:Nat} {pu:Nat→List C→Option C}
theorem Mt: (pW gl M pu).P=Tryd.prog:=rfl
theorem Mu: (pW gl M pu).N=M:=rfl
theorem Hr (d:Option Nat):iX (pW gl M pu) d=false:=by cases d<;>rfl
theorem tB: (pW gl M pu).P.follows .mixedOrders=true:=aW (gl:=gl) (M:=M) (pu:=pu)
end
attribute [go_sem] Mt Mu Hr
end Go.Sx
namespace Go.Sx
open Go.RowKit Go.Proofs
set_option maxRecDepth 100000
set_option maxHeartbeats 8000000
theorem Hu (u:TypeDesc)(y:Nat):fE (some ⟨u,3,y,[nI 0,nI 0,nI 0]⟩) 0 [] =some (vp (sl iD .full [])):=rfl
theorem zP {p:Prop}(e:p:=by intro KZ hZ;simp -implicitDefEqProofs (disch:=first|omega| (simp only[go_sem,lA,lD,lT] <;>omega) |decide) only[go_sem,↓reduceIte,Nat.reduceEqDiff,reduceCtorEq,Nat.reduceLT,Nat.reduceBEq,Nat.reduceAdd,hy];with_reducible exact hZ):p:=e
theorem Mw {p:Prop}(e:p:=by simp -implicitDefEqProofs (disch:=first|omega| (simp only[go_sem,lA,lD,lT] <;>omega) |decide) only[go_sem,↓reduceIte,Nat.reduceEqDiff,reduceCtorEq]):p:=e
theorem Qw {gl:Nat→C}{M:Nat}{pu:Nat→List C→Option C}(hcx:CxOK (aS gl M pu))(w:aj):FC Tryd.prog gl 53 [.agg [sl vC .no w]] [] (.fn 93 [.kp [sl vC .no w]]) []:=by
 replace hcx:=hcx.reN (M:=4)
 refine cf (cx:=aS gl 4 pu) (rs:=[.tmp 2]) rfl Tryd.func53 rfl rfl rfl (by simp only[List.length_cons,List.length_nil];decide) (by simp only[go_sem]) ?_
 simp only[dm,go_sem]
 have hy:=True.intro
 refine Tr.w hcx [] _ [none] rfl rfl rfl ?_ zP
 refine Tr.w hcx [1000003] _ [] rfl rfl rfl ?_ zP
 refine ab hcx 0 [sl vC .no w] ?_
 exact Tr.ret Mw
end Go.Sx
namespace Go.Sx
open Go.RowKit Go.Proofs
set_option maxRecDepth 100000
set_option maxHeartbeats 8000000
theorem My (u:TypeDesc)(y:Nat)(x:aN):fE (some ⟨u,7,y,[nI 0,nI 0,nI 0,nI 0,nI 0,str [],.slice none 0 0]⟩) 1 [(0,.agg (pC x))] =some (vp (sl pC .full [x])):=rfl
theorem Mz (u:TypeDesc)(y:Nat)(x:ID):fE (some ⟨u,3,y,[nI 0,nI 0,nI 0]⟩) 1 [(0,.agg (iD x))] =some (vp (sl iD .full [x])):=rfl
theorem RoundQ.c {k:Nat}{I1:Hp→Prop}{Q:Ex→Hp→Prop}{s:St}(h:I1 (s.h.take k))(hb:∀ (b:Nat) cells,b< k→s.h[b]? =some (some cells)→noRefs k cells=true:=by
 first
 | (rintro (_|b) cells hb hq
    . (cases hq;first| (simp only[aE,aJ,aI,aV,a9,aF,Bool.and_self];done) | (simp only[go_sem];done))
    . omega)
 | (rintro (_|_|b) cells hb hq
    . (cases hq;first| (simp only[aE,aJ,aI,aV,a9,aF,Bool.and_self];done) | (simp only[go_sem];done))
    . (cases hq;first| (simp only[aE,aJ,aI,aV,a9,aF,Bool.and_self];done) | (simp only[go_sem];done))
    . omega)):RoundQ k I1 Q .normal s:= .inl ⟨h,hb⟩
attribute [go_sem] My Mz Hu qM
def cB (w:aj):List aN:=(aK w).map (·.2)
theorem e7 (w:aj): (cB w).length= (aK w).length:=by simp[cB]
theorem lY (w:aj)(i:Nat)(h:i< (aK w).length):gt (cB w) i= (gt (aK w) i).2:=by simp[cB,gt,List.getD,List.getElem?_eq_getElem h]
theorem eC {α:Type}[Inhabited α](l:List α)(i:Nat)(h:i< l.length):l.take i++[gt l i] =l.take (i+1):=by
 rw[List.take_add_one,List.getElem?_eq_getElem h];simp[gt,List.getD,List.getElem?_eq_getElem h]
def WS (w:aj):Prop:=WB w∧(aK w).length≤100000∧∀i,i< (aK w).length→(gt (aK w) i).2.2.2.2.2.length≤1000000
end Go.Sx
namespace Go.Sx
open Go.RowKit Go.Proofs
set_option maxRecDepth 100000
set_option maxHeartbeats 8000000
theorem Nc {gl:Nat→C}{M:Nat}{pu:Nat→List C→Option C}{n:Nat}{Q:Ex→St→Prop}{g f m:Nat}{ps:List Nat}{assign body:Code}{e:List (Nat×C)}{h:Hp}{caps:List C}(N:Nat)(xs:Nat→List C)(H:Nat→Hp)(F:Nat→Prop)(hg:A e g= .fn f caps)(hI:ItrB Tryd.prog gl f caps N xs RowN∧∀i,RowN m (H i))
 (hx:∀i,i< N→(xs i).length=ps.length) (hp:∀p∈ps,p< M) (h0:h=H 0) (hF:F 0)
 (hb:∀i,i< N→F i→Tr (pW gl M pu) (H i).length assign ⟨A (fR ps (xs i) (mU e)),H i⟩ fun x s=>x= .normal∧Tr (pW gl M pu) (H i).length body s (RoundQ (H i).length (fun k=>k=H (i+1)∧F (i+1)) fun x h'=>Q x ⟨A e,h'⟩))
 (hd:F N→Q .normal ⟨A e,H N⟩):Tr (aS gl M pu) n (.rangeFunc (.tmp g) ps.toArray assign body) ⟨A e,h⟩ Q:=
 sY (cx:=aS gl M pu) rfl (fun i k=>k=H i∧F i) hg (hI.1 m _ fun i k hk=>by rw[hk.1];exact hI.2 i) hx hp ⟨h0,hF⟩ (fun i k hi hk=>by obtain ⟨rfl,hk⟩:=hk;rw[oB,kC];exact hb i hi hk) (fun k hk=>by obtain ⟨rfl,hk⟩:=hk;exact hd hk)
theorem o6 (op:BinOp)(a b:ID):aO Tryd.prog op 34 (.agg (iD a)) (.agg (iD b)) =sn op (decide (a=b)):=by
 have hg:Tryd.prog.eqGuardType Tryd.prog.depth 34=false:=by kernel_rfl
 have hs:Tryd.prog.stoodInHeld 34=false:=by kernel_rfl
 have hi:∀x y:Int,fW Tryd.prog 8 3 (.val (.int .i64 x)) (.val (.int .i64 y)) =some (decide (x=y)):=fun x y=>uu Tryd.prog 7 gN x y
 have he:fW Tryd.prog 9 34 (.agg (iD a)) (.agg (iD b)) =some (decide (a=b)):=by
  obtain ⟨a1,a2,a3⟩:=a
  obtain ⟨b1,b2,b3⟩:=b
  unfold fW
  rw[m5]
  simp only[hs,C.agg?,iD,nj,gN]
  have g:∀ (xs:List C)(o:Nat),cJ ⟨.int .i64,1,8,[.int .i64 0]⟩ xs o=cK xs o:=fun _ _=>rfl
  have r0:∀a b c:Value,cK [.val a,.val b,.val c] 0=some (.val a):=fun _ _ _=>rfl
  have r1:∀a b c:Value,cK [.val a,.val b,.val c] 1=some (.val b):=fun _ _ _=>rfl
  have r2:∀a b c:Value,cK [.val a,.val b,.val c] 2=some (.val c):=fun _ _ _=>rfl
  rw[if_neg (by decide)]
  simp only[g,r0,r1,r2,hi,ne_eq,String.reduceEq,not_false_eq_true,if_true]
  by_cases e1:a1=b1<;>by_cases e2:a2=b2<;>by_cases e3:a3=b3<;>simp[e1,e2,e3]
 show fX Tryd.prog op 34 _ _=_
 unfold fX
 rw[if_pos ⟨.inl ⟨rfl,rfl⟩,hg⟩]
 unfold sn
 cases op<;>simp[he,vp,Plan.pure]
def ga (w:aj)(id:ID): (Nat×Nat×Nat)×Bool:=match (aK w).find? (fun r=>decide (r.2.1=id)) with
 |some r=>(r.1,true)
 |none=>((0,0,0),false)
theorem OL {w:aj}{id:ID}{i:Nat}(hi:i< (aK w).length)(hn:∀j,j< i→¬ (gt (aK w) j).2.1=id)(h: (gt (aK w) i).2.1=id):ga w id= ((gt (aK w) i).1,true):=by
 have e:∀j (hj:j< (aK w).length),gt (aK w) j= (aK w)[j]:=fun j hj=>by simp[gt,List.getD,List.getElem?_eq_getElem hj]
 have: (aK w).find? (fun r=>decide (r.2.1=id)) =some (gt (aK w) i):=by
  rw[List.find?_eq_some_iff_getElem]
  refine ⟨by simpa using h,i,hi,(e i hi).symm,fun j hj=>?_⟩
  have:=hn j hj
  rw[e j (by omega)] at this
  simpa using this
 unfold ga;rw[this]
theorem OM {w:aj}{id:ID}(hn:∀j,j< (aK w).length→¬ (gt (aK w) j).2.1=id):ga w id= ((0,0,0),false):=by
 have: (aK w).find? (fun r=>decide (r.2.1=id)) =none:=by
  rw[List.find?_eq_none]
  intro r hr
  obtain ⟨j,hj,rfl⟩:=List.getElem_of_mem hr
  have:=hn j hj
  rw[show gt (aK w) j= (aK w)[j] by simp[gt,List.getD,List.getElem?_eq_getElem hj]] at this
  simpa using this
 unfold ga;rw[this]
theorem il {p:Prop}(e:p:=by intro KZ hZ;simp -implicitDefEqProofs (disch:=first|omega| (simp only[go_sem,lA,lD,lT] <;>omega) |decide) only[go_sem,↓reduceIte,Nat.reduceEqDiff,reduceCtorEq,Nat.reduceLT,Nat.reduceBEq,Nat.reduceAdd,h53,o6,c1,hy];with_reducible exact hZ):p:=e
theorem Ad {p:Prop}(e:p:=by simp -implicitDefEqProofs (disch:=first|omega| (simp only[go_sem,lA,lD,lT] <;>omega) |decide) only[go_sem,↓reduceIte,Nat.reduceEqDiff,reduceCtorEq];all_goals (first| (rw[hR];done) | (rw[hR];rfl))):p:=e
theorem Ro {gl:Nat→C}{M:Nat}{pu:Nat→List C→Option C}(hcx:CxOK (aS gl M pu))(h53:∀w:aj,pu 53 [.agg [sl vC .no w]] =some (.fn 93 [.kp [sl vC .no w]]))(w:aj)(id:ID)(hw:WB w):FC Tryd.prog gl 32 [.agg [sl vC .no w],.agg (iD id)] [] (.tup [.agg [.val (nI (ga w id).1.1),.val (nI (ga w id).1.2.1),.val (nI (ga w id).1.2.2)],.val (.bool (ga w id).2)]) []:=by
 replace hcx:=hcx.reN (M:=18)
 refine cf (cx:=aS gl 18 pu) (rs:=[.cell 4 60,.cell 5 4]) rfl Tryd.func32 rfl rfl rfl (by simp only[List.length_cons,List.length_nil];decide) (by simp only[go_sem]) ?_
 simp only[dm,go_sem]
 have c1:=True.intro
 have hy:=True.intro
 refine Tr.w hcx [] _ [none,none,none,none] rfl rfl rfl ?_ il
 refine af fun K1 hK1=>?_
 refine Tr.w hcx [] _ [] rfl rfl rfl ?_ il
 refine ax ?_
 refine ab hcx 1 (iD id) ?_
 refine Tr.k [3,4,5,9] ?_
 refine ah hcx [2,3] ?_
 refine Nc ((aK w).length) (qM w) (fun i=>[some [.val (nI 0),.val (nI 0),.val (nI 0)],some [.val (.bool false)]]) (fun i=> ∀j,j< i→¬ (gt (aK w) j).2.1=id) rfl (⟨tA hcx w hw,fun i=>(RowN.nil.c rfl rfl).c rfl rfl⟩) (fun i hi=>rfl) (by decide) (rfl) (fun j hj=>by omega) ?rb_1 ?rd_1
 case rb_1=>
  intro i hi hF
  replace hcx:=hcx.rnd
  have aW:= @tB
  simp only[go_sem]
  refine Tr.w hcx [] _ [none] rfl rfl rfl ?_ il
  refine Tr.v hcx [] _ [none] rfl rfl rfl ?_ il
  refine ⟨rfl,?_⟩
  refine Tr.k [3,4,5,6,7] ?_
  refine ax ?_
  by_cases c1: (gt (aK w) i).2.1=id
  ·
   have hR:=OL hi hF c1
   refine Tr.w hcx [] _ [] rfl rfl rfl ?_ il
   refine bh rfl ?_
   refine Tr.w hcx [] _ [] rfl rfl rfl ?_ il
   exact Tr.ret (RoundQ.r Ad)
  skip
  refine Tr.w hcx [] _ [] rfl rfl rfl ?_ il
  refine au rfl ?_
  refine Tr.skip ?_
  exact RoundQ.c (⟨rfl,fun j hj=>(Nat.lt_succ_iff_lt_or_eq.1 hj).elim (hF j) (fun e=>by subst e;simpa using c1)⟩)
 case rd_1=>
  intro hF
  have hR:=OM hF
  refine hK1 _ ?_
  refine Tr.w hcx [] _ [] rfl rfl rfl ?_ il
  exact Tr.ret Ad
end Go.Sx
namespace Go.Sx
open Go.RowKit Go.Proofs
set_option maxRecDepth 100000
set_option maxHeartbeats 8000000
end Go.Sx
namespace Go.Sx
open Go.RowKit Go.Proofs
def qP (x:Int):Prop:= -9223372036854775808≤x∧x≤9223372036854775807
instance (x:Int):Decidable (qP x):=by unfold qP;exact inferInstance
def b9 (x:ID):Prop:=qP x.1∧qP x.2.1∧qP x.2.2
instance (x:ID):Decidable (b9 x):=by unfold b9;exact inferInstance
def m3 (t:TypeId)(u:Value):Bool:=t==34 && (match u with
 | .agg vs=>(match vs.toList with
   | [.int .i64 a,.int .i64 b,.int .i64 c] =>decide (b9 (a,b,c))
   |_=>false)
 |_=>false)
def iw (x:ID):Value:= .agg #[.int .i64 x.1,.int .i64 x.2.1,.int .i64 x.2.2]
theorem j6 {x:ID}(h:b9 x):m3 34 (iw x) =true:=by
 obtain ⟨a,b,c⟩:=x
 show (true && decide (b9 (a,b,c))) =true
 rw[Bool.true_and];exact decide_eq_true h
theorem HQ:laidOutB Tryd.prog=true:=by kernel_rfl
theorem Ae: (34:TypeId) < Tryd.prog.types.size:=of_decide_eq_true (by kernel_rfl)
theorem Af:Tryd.prog.underlying 34=some (.struct #[Field.mk "By" 3 0 false "" "" 0,Field.mk "Seq" 3 1 false "" "" 8,Field.mk "K" 3 2 false "" "" 16]) :=by kernel_rfl
theorem ON:Tryd.prog.underlying 3=some (.int .i64):=by kernel_rfl
theorem Nd:Tryd.prog.cellsOf 34=3:=by kernel_rfl
theorem OO:Tryd.prog.cellsOf 3=1:=by kernel_rfl
theorem Nf:Tryd.prog.keyType 34=true:=by kernel_rfl
theorem HR:Tryd.prog.keyTypeAt 2 34=true:=by kernel_rfl
theorem Ng:WideMaps.KeyLaw Tryd.prog 34:=deep_law_laid HQ (m:=2) (Nat.le_of_ble_eq_true rfl) Ae HR (by rw[Af])
theorem HS {P:Program} (hsz:34< P.types.size) (u34:P.underlying 34=some (.struct #[Field.mk "By" 3 0 false "" "" 0,Field.mk "Seq" 3 1 false "" "" 8,Field.mk "K" 3 2 false "" "" 16])) (u3:P.underlying 3=some (.int .i64)) (c34:P.cellsOf 34=3) (c3:P.cellsOf 3=1) (k34:P.keyType 34=true)
 (a b c:Int) (h:b9 (a,b,c)):∃l,Go.keyOf P 34 (.agg #[.int .i64 a,.int .i64 b,.int .i64 c]) =some l:=by
 obtain ⟨n,hn⟩:∃n,P.types.size+1=n+2:=⟨P.types.size - 1,by omega⟩
 have hmin:IntKind.i64.min= -9223372036854775808:=by decide
 have hmax:IntKind.i64.max=9223372036854775807:=by decide
 have hw:∀x:Int,qP x→(Lit.int .i64 x).wf=true:=fun x hx=>by
  unfold qP at hx
  simp only[Lit.wf,hmin,hmax,Bool.and_eq_true,decide_eq_true_eq];omega
 have hk:P.keyLits (n+2) 34 [.int .i64 a,.int .i64 b,.int .i64 c] =some [.int .i64 a,.int .i64 b,.int .i64 c]:=by
  simp[Program.keyLits,u34,u3,c34,c3,hw a h.1,hw b h.2.1,hw c h.2.2]
 refine ⟨Lit.string (keyBytes [.int .i64 a,.int .i64 b,.int .i64 c]),?_⟩
 unfold Go.keyOf
 rw[u34]
 have hf: (Value.agg #[.int .i64 a,.int .i64 b,.int .i64 c]).formed P 34=true:=by simp[Value.formed,u34,c34]
 simp only[k34,hf,Bool.and_self,if_true,hn]
 have hc: (Value.agg #[.int .i64 a,.int .i64 b,.int .i64 c]).cells.toList= [.int .i64 a,.int .i64 b,.int .i64 c]:=rfl
 rw[hc,hk];rfl
theorem Nh (k:TypeId)(u:Value)(h:m3 k u=true):Go.Maps.Keyed Tryd.prog k∧∃l,Go.keyOf Tryd.prog k u=some l:=by
 unfold m3 at h
 simp only[Bool.and_eq_true,beq_iff_eq] at h
 obtain ⟨rfl,h⟩:=h
 refine ⟨Go.Maps.Keyed.of_law Ng,?_⟩
 split at h
 . rename_i vs
   split at h
   . rename_i a b c hl
     have hv:vs= #[.int .i64 a,.int .i64 b,.int .i64 c]:=by apply Array.ext';rw[hl]
     subst hv
     exact HS Ae Af ON Nd OO Nf a b c (of_decide_eq_true h)
   . cases h
 . cases h
def cZ:List ID→List C
 | [] =>[]
 |x::M=> .val (iw x):: .val (.bool true)::cZ M
theorem tQ:∀ (M N:List ID),cZ (M++N) =cZ M++cZ N
 | [],_=>rfl
 |x::M,N=>by simp only[List.cons_append,cZ,tQ M N]
theorem qj (k:Nat):∀M,noRefs k (cZ M) =true
 | [] =>rfl
 |x::M=>by simp only[cZ,noRefs,ag,qj k M,Bool.and_self]
theorem qk (x y:ID):vq (iw x) (iw y) =some (decide (x=y)):=by
 obtain ⟨a,b,c⟩:=x
 obtain ⟨a',b',c'⟩:=y
 show uc [.int .i64 a,.int .i64 b,.int .i64 c] [.int .i64 a',.int .i64 b',.int .i64 c'] =_
 have k:∀x y:Int,(x==y) =decide (x=y):=fun x y=>by by_cases h:x=y<;>simp[h]
 by_cases h1:a=a'<;>by_cases h2:b=b'<;>by_cases h3:c=c'<;>simp[uc,ub,k,h1,h2,h3]
def OkI (M:List ID):Prop:=M.Nodup∧∀x∈M,b9 x
theorem OkI.tail {y:ID}{M:List ID}(h:OkI (y::M)):OkI M:=⟨(List.nodup_cons.1 h.1).2,fun x hx=>h.2 x (List.mem_cons_of_mem _ hx)⟩
theorem gb {cx:Cx}(hk:cx.km=m3)(x:ID):∀ (M:List ID)(i:Nat),OkI M→x∉M→eE cx 34 (iw x) (cZ M) i=some none
 | [],_,_,_=>rfl
 |y::M,i,hM,h=>by
  simp only[List.mem_cons,not_or] at h
  simp only[cZ,eE,hk,j6 (hM.2 y (List.mem_cons_self ..)),if_true,qk,decide_eq_false h.1]
  exact gb hk x M (i+1) hM.tail h.2
theorem g6 {cx:Cx}(hk:cx.km=m3)(x:ID):∀ (M:List ID)(i:Nat),x∈M→OkI M→∃j,eE cx 34 (iw x) (cZ M) i=some (some (i+j,.val (.bool true)))∧M[j]? =some x
 | [],_,h,_=>by simp at h
 |y::M,i,h,nd=>by
  obtain ⟨n1,n2⟩:=List.nodup_cons.1 nd.1
  have hy:=j6 (nd.2 y (List.mem_cons_self ..))
  by_cases e:x=y
  . subst e
    simp only[cZ,eE,hk,hy,if_true,qk,decide_true,gb hk x M (i+1) nd.tail n1]
    exact ⟨0,rfl,rfl⟩
  . simp only[cZ,eE,hk,hy,if_true,qk,decide_eq_false e]
    obtain ⟨j,h1,h2⟩:=g6 hk x M (i+1) (by simpa[e] using h) nd.tail
    refine ⟨j+1,?_,by simpa using h2⟩
    rw[h1,show i+1+j=i+(j+1) from by omega]
end Go.Sx
namespace Go.Sx
open Go.RowKit Go.Proofs
theorem wZ:iA Tryd.prog 92=some (34,4):=by kernel_rfl
def jE (M:List ID)(x:ID):List ID:=if x∈M then M else M++[x]
theorem nS:∀ (M:List ID)(j:Nat)(x:ID),M[j]? =some x→(cZ M).set (2*j+1) (.val (.bool true)) =cZ M∧(cZ M).take (2*j)++(cZ M).drop (2*j+2) =cZ (M.eraseIdx j)
 | [],j,x,h=>by simp at h
 |y::M,0,x,h=>by simp[cZ]
 |y::M,j+1,x,h=>by
  obtain ⟨h1,h2⟩:=nS M j x (by simpa using h)
  rw[show 2*(j+1)+1=2*j+1+1+1 from by omega,show 2*(j+1) =2*j+1+1 from by omega,show 2*j+1+1+2=2*j+2+1+1 from by omega]
  simp only[cZ,List.set_cons_succ,List.take_succ_cons,List.drop_succ_cons,List.cons_append,List.eraseIdx_cons_succ,h1,h2,and_self]
theorem RK:xu Tryd.prog 4=some (.val (.bool false)):=by kernel_rfl
theorem qQ:∀ {M:List ID},M.Nodup→∀ {j:Nat}{x:ID},M[j]? =some x→M.eraseIdx j=M.erase x
 | [],_,j,x,h=>by simp at h
 |y::M,nd,0,x,h=>by
  simp at h;subst h
  rw[List.erase_cons_head,List.eraseIdx_cons_zero]
 |y::M,nd,j+1,x,h=>by
  have h:M[j]? =some x:=by simpa using h
  obtain ⟨n1,n2⟩:=List.nodup_cons.1 nd
  have hx:x∈M:=List.mem_of_getElem? h
  have hne:y≠x:=fun e=>n1 (e▸hx)
  rw[List.eraseIdx_cons_succ,List.erase_cons_tail (by simpa using hne),qQ n2 h]
section
variable {cx:Cx} (hP:cx.P=Tryd.prog) (hk:cx.km=m3) {b:Nat} {h:Hp} {M:List ID} (hm:h.mp b=some (cZ M)) (hM:OkI M) {x:ID} (hx:b9 x)
include hP hk hm hM hx
theorem EB:l8 cx 92 b (iw x) (.val (.bool true)) h=some (.val undef,h.set b (some (c9 (cZ (jE M x))))):=by
 unfold l8
 rw[hP,wZ]
 simp only[hk,j6 hx,if_true,hm,Option.bind_some]
 by_cases e:x∈M
 . obtain ⟨j,h1,h2⟩:=g6 hk x M 0 e hM
   rw[h1,Option.map_some]
   unfold qX jE
   simp only[Nat.zero_add,(nS M j x h2).1,if_pos e]
 . rw[gb hk x M 0 hM e,Option.map_some]
   unfold qX jE
   simp only[if_neg e,tQ]
   rfl
theorem OP:ma cx 92 b (iw x) h=some (.val (.tuple #[]),h.set b (some (c9 (cZ (M.erase x))))):=by
 unfold ma
 rw[hP,wZ]
 simp only[hk,j6 hx,if_true,hm,Option.bind_some]
 by_cases e:x∈M
 . obtain ⟨j,h1,h2⟩:=g6 hk x M 0 e hM
   rw[h1,Option.map_some]
   unfold qY
   simp only[Nat.zero_add,(nS M j x h2).2,qQ hM.1 h2]
 . rw[gb hk x M 0 hM e,Option.map_some]
   unfold qY
   simp only[List.erase_of_not_mem e]
theorem Ag:jK cx 92 b (iw x) false h=some (.val (.bool (decide (x∈M))),h):=by
 unfold jK
 rw[hP,wZ]
 simp only[hk,j6 hx,if_true,hm,Option.bind_some]
 by_cases e:x∈M
 . obtain ⟨j,h1,h2⟩:=g6 hk x M 0 e hM
   rw[h1,Option.bind_some]
   unfold ol
   rw[decide_eq_true e];rfl
 . rw[gb hk x M 0 hM e,Option.bind_some]
   unfold ol
   rw[decide_eq_false e]
   simp only[hP,RK,Option.map_some];rfl
end
theorem OkI.nil:OkI []:=⟨List.nodup_nil,fun x h=>by cases h⟩
theorem OkI.ins {M:List ID}(hM:OkI M){x:ID}(hx:b9 x):OkI (jE M x):=by
 unfold jE
 split
 . exact hM
 . rename_i e
   refine ⟨List.nodup_append.2 ⟨hM.1,by simp,fun a ha b hb=>?_⟩,fun y hy=>?_⟩
   . simp at hb;subst hb;exact fun q=>e (q▸ha)
   . rcases List.mem_append.1 hy with hy|hy
     . exact hM.2 y hy
     . simp at hy;subst hy;exact hx
theorem OkI.del {M:List ID}(hM:OkI M)(x:ID):OkI (M.erase x):=⟨hM.1.erase x,fun y hy=>hM.2 y (List.mem_of_mem_erase hy)⟩
end Go.Sx
namespace Go.Sx
open Go.RowKit Go.Proofs
set_option maxRecDepth 100000
set_option maxHeartbeats 8000000
noncomputable def jr (gl:Nat→C)(M:Nat)(pu:Nat→List C→Option C):Cx:=⟨Tryd.prog,M,gl,pu,fun _ _ _=>none,fun _=>false,m3,true⟩
noncomputable def ir (gl:Nat→C)(M:Nat)(pu:Nat→List C→Option C):Cx:=⟨Tryd.prog,M,gl,pu,fun _ _ _=>none,fun _=>false,m3,false⟩
theorem oK {gl:Nat→C}{M:Nat}{pu:Nat→List C→Option C}(hcx:CxOK (aS gl M pu)):CxOK (jr gl M pu):=⟨hcx.glo,hcx.pu,(fun _ _ _ _ _ h=>by cases h),Nh⟩
section
variable {gl:Nat→C} {M:Nat} {pu:Nat→List C→Option C}
theorem N5: (jr gl M pu).P=Tryd.prog:=rfl
theorem N6: (jr gl M pu).N=M:=rfl
theorem Ll: (jr gl M pu).pu=pu:=rfl
theorem Lm (d:Option Nat):iX (jr gl M pu) d=false:=by cases d<;>rfl
theorem Ln: (ir gl M pu).P=Tryd.prog:=rfl
theorem Lo: (ir gl M pu).N=M:=rfl
theorem GP: (ir gl M pu).pu=pu:=rfl
theorem GQ (d:Option Nat):iX (ir gl M pu) d=false:=by cases d<;>rfl
theorem Lp {n:Nat}{Q:Ex→St→Prop}{g f m:Nat}{ps:List Nat}{assign body:Code}{e:List (Nat×C)}{h:Hp}{caps:List C}(N:Nat)(xs:Nat→List C)(H:Nat→Hp)(R:Nat→Hp→Prop)(hg:A e g= .fn f caps)(hI:ItrB Tryd.prog gl f caps N xs R∧∀i,R m (H i))
 (hx:∀i,i< N→(xs i).length=ps.length) (hp:∀p∈ps,p< M) (h0:h=H 0)
 (hb:∀i,i< N→Tr (ir gl M pu) (H i).length assign ⟨A (fR ps (xs i) (mU e)),H i⟩ fun x s=>x= .normal∧Tr (ir gl M pu) (H i).length body s (RoundQ (H i).length (fun k=>k=H (i+1)) fun x h'=>Q x ⟨A e,h'⟩))
 (hd:Q .normal ⟨A e,H N⟩):Tr (jr gl M pu) n (.rangeFunc (.tmp g) ps.toArray assign body) ⟨A e,h⟩ Q:=
 Ke (cx:=jr gl M pu) rfl N xs H hg hI.1 m hI.2 hx hp h0 hb hd
end
attribute [go_sem] N5 N6 Ll Lm Ln Lo GP GQ
theorem PV:td Tryd.prog 92=some ⟨.map 34 4,1,8,[.map none]⟩:=by kernel_rfl
theorem N7:eJ Tryd.prog 92=some (.mo om):=Gu wZ
theorem Lq (cx:Cx)(b:Nat)(x:ID)(v:C):eK cx 92 (.mp b) (.agg (iD x)) v=some (.mo (l8 cx 92 b (iw x) v)):=Gv cx 92 b _ v _ rfl
theorem GR (cx:Cx)(b:Nat)(x:ID)(ok:Bool):ej cx 92 (.mp b) (.agg (iD x)) ok=some (.mo (jK cx 92 b (iw x) ok)):=Ce cx 92 b _ _ ok rfl
theorem Lr (cx:Cx)(b:Nat)(x:ID):eL cx 92 (.mp b) (.agg (iD x)) =some (.mo (ma cx 92 b (iw x))):=Gw cx 92 b _ _ rfl
theorem zj {P:Program}(t:TypeId)(b o m:Nat)(k:Option Nat):ce P t (.bp b o) (.mp m) k=jm (td P t) b o (some [.mp m]):=by
 unfold ce jm;cases td P t<;>rfl
theorem N8: (Value.map none).oneCell'=true:=rfl
attribute [go_sem] PV N7 Lq GR Lr N8 zj
theorem oL {gl:Nat→C}{M:Nat}{pu:Nat→List C→Option C}(hcx:CxOK (jr gl M pu)):CxOK (aS gl M pu):=⟨hcx.glo,hcx.pu,(fun _ _ _ _ _ h=>by cases h),fun _ _ h=>by cases h⟩
theorem RowN.m {n:Nat}{h:Hp}{l:List C}(H:RowN n h)(h1:noRefs 0 (c9 l) =true):RowN (n+1) (some (c9 l)::h):=
 ⟨by simp[H.len],by rw[g0,h1,H.nr];rfl,fun j hj=>by
   cases j with
   |zero=>left;rw[sL];simp[eu,c9]
   |succ j=>
    have:=H.lv j (by omega)
    rw[np,nE]
    simpa using this⟩
theorem zk (ok:Nat→Bool)(b:Nat)(ys:List C):fzCs ok b ys (c9 []) =c9 []:=by simp only[c9,fzCs,aU]
attribute [go_sem] Ay zk
theorem ta (k:Nat)(M:List ID):noRefs k (c9 (cZ M)) =true:=by simp only[c9,noRefs,ag,qj,Bool.and_self]
attribute [go_sem] ta
theorem GS (l:List ID)(i:Nat)(h:i< l.length):gt l i∈l:=by simp[gt,List.getD,List.getElem?_eq_getElem h]
theorem ml (M:List ID):noRefs 0 (c9 (cZ M)) =true:=by simp only[c9,noRefs,ag,qj,Bool.and_self]
def cN (M:List ID):List aN→List ID×List ID
 | [] =>(M,[])
 |p::l=>if p.1∈M then ((cN (M.erase p.1) l).1,p.1:: (cN (M.erase p.1) l).2) else cN M l
theorem nL:∀ (M:List ID)(l:List aN),(cN M l).2.length≤l.length
 |M,[] =>Nat.le_refl _
 |M,q::l=>by
  simp only[cN]
  split
  . have:=nL (M.erase q.1) l
    simp only[List.length_cons];omega
  . have:=nL M l
    simp only[List.length_cons];omega
def cR (l:List ID):List ID:=l.foldl jE []
theorem uM (l:List ID)(i:Nat)(h:i< l.length):jE (cR (l.take i)) (gt l i) =cR (l.take (i+1)):=by
 rw[←eC l i h];unfold cR;rw[List.foldl_append];rfl
theorem nM:∀ (M:List ID)(l:List aN)(p:aN),cN M (l++[p]) =if p.1∈ (cN M l).1 then ((cN M l).1.erase p.1,(cN M l).2++[p.1]) else cN M l
 |M,[],p=>by by_cases h:p.1∈M<;>simp[cN,h]
 |M,q::l,p=>by
  simp only[List.cons_append,cN]
  split
  . rw[nM (M.erase q.1) l p]
    split<;>simp
  . exact nM M l p
theorem pJ:∀ (M:List ID)(l:List aN),OkI M→OkI (cN M l).1
 |M,[],h=>h
 |M,q::l,h=>by
  simp only[cN]
  split
  . exact pJ (M.erase q.1) l (h.del q.1)
  . exact pJ M l h
theorem pK {l:List ID}(h:∀x∈l,b9 x):OkI (cR l):=by
 have:∀ (l M:List ID),OkI M→(∀x∈l,b9 x)→OkI (l.foldl jE M):=fun l=>by
  induction l with
  |nil=>intro M hM _;exact hM
  |cons x l ih=>intro M hM hl;exact ih _ (hM.ins (hl x (List.mem_cons_self ..))) fun y hy=>hl y (List.mem_cons_of_mem _ hy)
 exact this l [] OkI.nil h
theorem ez {p:Prop}(e:p:=by intro KZ hZ;simp -implicitDefEqProofs (disch:=first|omega| (simp only[go_sem,lA,lD,lT,hT] <;>omega) |decide) only[go_sem,↓reduceIte,Nat.reduceEqDiff,reduceCtorEq,Nat.reduceLT,Nat.reduceBEq,Nat.reduceAdd,h53,ep,c1,hy];with_reducible exact hZ):p:=e
theorem Ls {p:Prop}(e:p:=by simp -implicitDefEqProofs (disch:=first|omega| (simp only[go_sem,lA,lD,lT,hT] <;>omega) |decide) only[go_sem,↓reduceIte,Nat.reduceEqDiff,reduceCtorEq];all_goals (rfl)):p:=e
theorem PW {gl:Nat→C}{M:Nat}{pu:Nat→List C→Option C}(hcx:CxOK (jr gl M pu))(h53:∀w:aj,pu 53 [.agg [sl vC .no w]] =some (.fn 93 [.kp [sl vC .no w]]))(w:aj)(l:List ID)(hw:WS w)(hl:∀x∈l,b9 x)(hl2:l.length≤1000000)(hid:∀i,i< (aK w).length→b9 (gt (aK w) i).2.1):FC Tryd.prog gl 28 [.agg [sl vC .no w],sl iD .no l] [] (sl iD .no (cN (cR l) (cB w)).2) []:=by
 replace hcx:=hcx.reN (M:=38)
 refine cf (cx:=jr gl 38 pu) (rs:=[.tmp 4]) rfl Tryd.func28 rfl rfl rfl (by simp only[List.length_cons,List.length_nil];decide) (by simp only[go_sem]) ?_
 simp only[dm,go_sem]
 have c1:=True.intro
 have hy:=True.intro
 have ep:=True.intro
 have hT:=True.intro
 have hmv:=fun (ρ:List Nat) (M:List ID) =>mvCs_nr ρ (c9 (cZ M)) (ml M)
 refine Tr.w hcx [] _ [none] rfl rfl rfl ?_ ez
 refine Tr.w hcx [] _ [none] rfl rfl rfl ?_ ez
 refine af fun K1 hK1=>?_
 refine ab hcx 0 [sl vC .no w] ?_
 refine ab hcx 1 [.mp 2] ?_
 refine Tr.k [1,2,5] ?_
 refine ah hcx [2] ?_
 refine Tr.w hcx [] _ [] rfl rfl rfl ?_ ez
 refine Tr.k [2,5,12,13,14] ?_
 refine ax ?_
 refine BX hcx (α:=Nat) (fun a=>[(2,?v2_1),(5,?v5_1),(12,?v12_1),(13,?v13_1),(14,.val (nI a))]) (fun a=>[some (c9 (cZ (cR (l.take a))))]) (fun a=>a≤l.length) (fun a=>l.length - a) (0) (Nat.zero_le _) ?le_1 ?hh_1 ?bd_1
 case hh_1=>exact rfl
 case le_1=>exact LT
 rintro i hi
 refine Tr.w hcx [] _ [] rfl rfl rfl ?_ ez
 refine af fun K2 hK2=>?_
 refine bc rfl (fun hc15=>?_) (fun hc15=>?_)
 ·
  have ex:b9 (gt l i):=hl _ (GS l i hc15)
  have hM:OkI (cR (l.take i)):=pK fun x hx=>hl x (List.mem_of_mem_take hx)
  have ep:=EB (cx:=⟨Tryd.prog,38,gl,pu,fun _ _ _=>none,fun _=>false,m3,true⟩) rfl rfl (h:=[some (c9 (cZ (cR (l.take i)))),some (iD (gt l i))]) (b:=0) rfl hM ex
  refine Tr.skip ?_
  refine hK2 _ ?_
  refine af fun K3 hK3=>?_
  refine ax ?_
  refine Tr.w hcx [] _ [none] rfl rfl rfl ?_ ez
  have hy:= @ep
  refine Tr.v hcx [] _ [] rfl rfl rfl ?_ ez
  refine hK3 _ ?_
  have hy:=True.intro
  refine Tr.v hcx [] _ [] rfl rfl rfl ?_ ez
  first
  |exact ⟨[0],⟨by decide,by decide,by decide⟩,i+1,⟨(by omega),O1⟩,LM,by simp only[sI,nD,lE,sG,sH,Option.map_some,Option.map_none,en,sF,nB,lz,pB,mf,lB,sz,sA,sB,pD,sD,lr,ls,lu,lw,lx,ly,pz,nz,↓reduceIte,Nat.reduceEqDiff,reduceCtorEq,Nat.reduceAdd,Nat.zero_add,Nat.one_ne_zero,Nat.zero_ne_one,sE,sM,lI,lJ,sN,lK,lL,hmv];rw[uM l _ hc15]⟩
 obtain rfl:i=l.length:=by omega
 rw[List.take_length]
 refine Tr.exit ?_
 refine hK1 _ ?_
 refine Tr.w hcx [] _ [none] rfl rfl rfl ?_ ez
 refine af fun K4 hK4=>?_
 refine Tr.w hcx [] _ [] rfl rfl rfl ?_ ez
 refine ax ?_
 refine Tr.k [5,8,22] ?_
 refine Tr.bxc 1 0 (sl iD (.own 3) []) _ rfl rfl (bS rfl) rfl ?_
 simp only[List.set_cons_succ,List.set_cons_zero]
 refine Lp ((aK w).length) (qM w) (fun i=>[some (c9 (cZ (cN (cR l) ((cB w).take i)).1)),some [sl iD (.own 3) (cN (cR l) ((cB w).take i)).2]]) (RowN) rfl (⟨tA (oL hcx) w hw.1,fun i=>(RowN.nil.c (by simp only[aE,aJ,aI,Bool.and_self]) rfl).m (ml _)⟩) (fun i hi=>rfl) (by decide) (rfl) ?rb_2 ?rd_2
 case rb_2=>
  intro i hi
  replace hcx:=hcx.rnd
  have aW:= @tB
  simp only[go_sem]
  have eP:=lY w i hi
  have hM:OkI (cN (cR l) ((cB w).take i)).1:=pJ _ _ (pK hl)
  have hT: (cN (cR l) ((cB w).take i)).2.length≤i:=Nat.le_trans (nL _ _) (by rw[List.length_take];omega)
  have hw2:=hw.2.1
  have ex:=hid i hi
  obtain ⟨P,hP⟩:∃P,(gt (aK w) i).2=P:=⟨_,rfl⟩
  rw[hP] at ex eP
  rw[hP]
  have hS:=nM (cR l) ((cB w).take i) P
  rw[show (cB w).take i++[P] = (cB w).take (i+1) from by rw[←eP];exact eC _ _ (by rw[e7];exact hi)] at hS
  obtain ⟨S,hSS⟩:∃S,cN (cR l) ((cB w).take i) =S:=⟨_,rfl⟩
  rw[hSS] at hM hS hT
  rw[hSS]
  have ep:=And.intro (fun r=>Ag (cx:=ir gl 38 pu) rfl rfl (h:=some (c9 (cZ S.1))::r) (b:=0) rfl hM ex) (fun r=>OP (cx:=ir gl 38 pu) rfl rfl (h:=some (c9 (cZ S.1))::r) (b:=0) rfl hM ex)
  refine Tr.v hcx [] _ [none] rfl rfl rfl ?_ ez
  refine ⟨rfl,?_⟩
  refine Tr.k [5,8,10] ?_
  refine ax ?_
  by_cases c1:P.1∈S.1
  ·
   refine Tr.w hcx [] _ [] rfl rfl rfl ?_ ez
   refine bh rfl ?_
   refine Tr.w hcx [29] _ [] rfl rfl rfl ?_ ez
   refine Tr.v hcx [] _ [] rfl rfl rfl ?_ ez
   exact RoundQ.c (by simp only[hS,if_pos c1];rfl)
  refine Tr.w hcx [] _ [] rfl rfl rfl ?_ ez
  refine au rfl ?_
  refine Tr.skip ?_
  exact RoundQ.c (by simp only[hS,if_neg c1];rfl)
 case rd_2=>
  refine hK4 _ ?_
  rw[List.take_of_length_le (show (cB w).length≤(aK w).length by rw[e7];exact Nat.le_refl _)]
  refine Tr.w hcx [1000037] _ [] rfl rfl rfl ?_ ez
  refine Tr.live [(4,sl iD .no (cN (cR l) (cB w)).2)] (by simp only[cU,dz,↓cV,↓reduceIte,Nat.reduceEqDiff,and_true];exact CLe.refl _) ?_
  exact Tr.ret Ls
end Go.Sx
namespace Go.Sx
open Go.RowKit Go.Proofs
set_option maxRecDepth 100000
set_option maxHeartbeats 8000000
theorem GT (u:TypeDesc)(y:Nat)(a b:ID):fE (some ⟨u,3,y,[nI 0,nI 0,nI 0]⟩) 2 [(0,.agg (iD a)),(1,.agg (iD b))] =some (vp (sl iD .full [a,b])):=rfl
theorem GU (x y:ID):fv (iD x++iD y) 0 3=some (.agg (iD x)):=rfl
theorem DN {l:List ID} (h:l.length=2) :yj (some ⟨.struct #[Field.mk "By" 3 0 false "" "" 0,Field.mk "Seq" 3 1 false "" "" 8,Field.mk "K" 3 2 false "" "" 16],3,24,[nI 0,nI 0,nI 0]⟩) (some 0) 2 (cl iD l) =some (vp (.kp (iD (gt l 0)++iD (gt l 1)))) :=by
 rcases l with _| ⟨x,_| ⟨y,_| ⟨z,l⟩⟩⟩
 . cases h
 . cases h
 . rfl
 . simp at h
attribute [go_sem] GT GU
theorem zl {p:Prop}(e:p:=by intro KZ hZ;simp -implicitDefEqProofs (disch:=first|omega| (simp only[go_sem,lA,lD,lT] <;>omega) |decide) only[go_sem,↓reduceIte,Nat.reduceEqDiff,reduceCtorEq,Nat.reduceLT,Nat.reduceBEq,Nat.reduceAdd,e28,o6,hO,c1,c2,hy];with_reducible exact hZ):p:=e
theorem tb {p:Prop}(e:p:=by intro KZ hZ;simp -implicitDefEqProofs (disch:=first|omega| (simp only[go_sem,lA,lD,lT] <;>omega) |decide) only[go_sem,↓reduceIte,Nat.reduceEqDiff,reduceCtorEq,Nat.reduceLT,Nat.reduceBEq,Nat.reduceAdd,e28,o6,hO,c1,c2,hy];with_reducible refine And.intro ?_ hZ;first|exact rfl|decide):p:=e
theorem tc {p:Prop}(e:p:=by simp -implicitDefEqProofs (disch:=first|omega| (simp only[go_sem,lA,lD,lT] <;>omega) |decide) only[go_sem,↓reduceIte,Nat.reduceEqDiff,reduceCtorEq];all_goals (simp[c1,c2])):p:=e
theorem PX {gl:Nat→C}{M:Nat}{pu:Nat→List C→Option C}(hcx:CxOK (aS gl M pu))(h28:∀ (w:aj) (l:List ID),WS w→(∀x∈l,b9 x)→l.length≤1000000→(∀i,i< (aK w).length→b9 (gt (aK w) i).2.1)→pu 28 [.agg [sl vC .no w],sl iD .no l] =some (sl iD .no (cN (cR l) (cB w)).2))(w:aj)(a b:ID)(hw:WS w)(ha:b9 a)(hb:b9 b)(hid:∀i,i< (aK w).length→b9 (gt (aK w) i).2.1):FC Tryd.prog gl 30 [.agg [sl vC .no w],.agg (iD a),.agg (iD b)] [] (.val (.bool (decide ((cN (cR [a,b]) (cB w)).2.length=2∧gt (cN (cR [a,b]) (cB w)).2 0=a)))) []:=by
 replace hcx:=hcx.reN (M:=23)
 refine cf (cx:=aS gl 23 pu) (rs:=[.tmp 6]) rfl Tryd.func30 rfl rfl rfl (by simp only[List.length_cons,List.length_nil];decide) (by simp only[go_sem]) ?_
 simp only[dm,go_sem]
 have c1:=True.intro
 have c2:=True.intro
 have hy:=True.intro
 have e28:=h28 w [a,b] hw (by intro x hx;simp at hx;rcases hx with rfl|rfl<;>assumption) (by simp) hid
 obtain ⟨O,hO⟩:∃O,(cN (cR [a,b]) (cB w)).2=O:=⟨_,rfl⟩
 rw[hO]
 rw[hO] at e28
 refine Tr.w hcx [] _ [none,none,none] rfl rfl rfl ?_ zl
 refine Tr.w hcx [1000012] _ [] rfl rfl rfl ?_ zl
 by_cases c1:O.length=2
 ·
  by_cases c2:gt O 0=a
  ·
   have x20:=DN c1
   have hy:= @x20
   refine bB hcx aW [1000022] [some 13,some 14,some 15,some 16,some 17,some 18,some 19,some 20,some 21,some 22,some 6] [] rfl rfl rfl rfl ?_ tb
   exact Tr.ret tc
  have x20:=DN c1
  have hy:= @x20
  refine bB hcx aW [1000022] [some 13,some 14,some 15,some 16,some 17,some 18,some 19,some 20,some 21,some 22,some 6] [] rfl rfl rfl rfl ?_ tb
  exact Tr.ret tc
 have x20:=True.intro
 have c2:=True.intro
 have hy:= @x20
 refine bB hcx aW [1000022] [some 13,some 14,some 15,some 16,some 17,some 18,some 19,some 20,some 21,some 22,some 6] [] rfl rfl rfl rfl ?_ tb
 exact Tr.ret tc
end Go.Sx
namespace Go.Sx
open Go.RowKit Go.Proofs
set_option maxRecDepth 100000
set_option maxHeartbeats 8000000
theorem id_eq (a b:ID): (a=b) = (a.1=b.1∧a.2.1=b.2.1∧a.2.2=b.2.2):=by
 obtain ⟨a1,a2,a3⟩:=a;obtain ⟨b1,b2,b3⟩:=b
 simp
theorem GV {a b:List ID}(h:a.length=b.length)(hn:∀j,j< a.length→gt a j=gt b j):a=b:=by
 refine List.ext_getElem h fun i h1 h2=>?_
 have:=hn i h1
 simpa[gt,List.getD,List.getElem?_eq_getElem h1,List.getElem?_eq_getElem h2] using this
theorem oM {p:Prop}(e:p:=by intro KZ hZ;simp -implicitDefEqProofs (disch:=first|omega| (simp only[go_sem,lA,lD,lT] <;>omega) |decide) only[go_sem,↓reduceIte,Nat.reduceEqDiff,reduceCtorEq,Nat.reduceLT,Nat.reduceBEq,Nat.reduceAdd,c1,c2,hy];with_reducible exact hZ):p:=e
theorem te {p:Prop}(e:p:=by simp -implicitDefEqProofs (disch:=first|omega| (simp only[go_sem,lA,lD,lT] <;>omega) |decide) only[go_sem,↓reduceIte,Nat.reduceEqDiff,reduceCtorEq];all_goals (simp[id_eq,c1,c2])):p:=e
theorem PY {gl:Nat→C}{M:Nat}{pu:Nat→List C→Option C}(hcx:CxOK (aS gl M pu))(a b:ID):FC Tryd.prog gl 60 [.agg (iD a),.agg (iD b)] [] (.val (.bool (decide (a=b)))) []:=by
 replace hcx:=hcx.reN (M:=24)
 refine cf (cx:=aS gl 24 pu) (rs:=[.tmp 4]) rfl Tryd.func60 rfl rfl rfl (by simp only[List.length_cons,List.length_nil];decide) (by simp only[go_sem]) ?_
 simp only[dm,go_sem]
 have c1:=True.intro
 have c2:=True.intro
 have hy:=True.intro
 refine Tr.w hcx [] _ [none,none] rfl rfl rfl ?_ oM
 by_cases c1:a.1=b.1
 ·
  by_cases c2:a.2.1=b.2.1
  ·
   skip
   refine Tr.w hcx [1000023] [some 5,some 6,some 7,some 8,some 9,some 10,some 11,some 12,some 13,some 14,some 15,some 16,some 17,some 18,some 19,some 20,some 21,some 22,some 23,some 4] [] rfl rfl rfl ?_ oM
   exact Tr.ret te
  skip
  refine Tr.w hcx [1000023] [some 5,some 6,some 7,some 8,some 9,some 10,some 11,some 12,some 13,some 14,some 15,some 16,some 17,some 18,some 19,some 20,some 21,some 22,some 23,some 4] [] rfl rfl rfl ?_ oM
  exact Tr.ret te
 have c2:=True.intro
 refine Tr.w hcx [1000023] [some 5,some 6,some 7,some 8,some 9,some 10,some 11,some 12,some 13,some 14,some 15,some 16,some 17,some 18,some 19,some 20,some 21,some 22,some 23,some 4] [] rfl rfl rfl ?_ oM
 exact Tr.ret te
theorem gJ {p:Prop}(e:p:=by intro KZ hZ;simp -implicitDefEqProofs (disch:=first|omega| (simp only[go_sem,lA,lD,lT] <;>omega) |decide) only[go_sem,↓reduceIte,Nat.reduceEqDiff,reduceCtorEq,Nat.reduceLT,Nat.reduceBEq,Nat.reduceAdd,h60,c0,c1,hy];with_reducible exact hZ):p:=e
theorem zm {p:Prop}(e:p:=by intro KZ hZ;simp -implicitDefEqProofs (disch:=first|omega| (simp only[go_sem,lA,lD,lT] <;>omega) |decide) only[go_sem,↓reduceIte,Nat.reduceEqDiff,reduceCtorEq,Nat.reduceLT,Nat.reduceBEq,Nat.reduceAdd,h60,c0,c1,hy];with_reducible refine And.intro ?_ hZ;first|exact rfl|decide):p:=e
theorem tf {p:Prop}(e:p:=by simp -implicitDefEqProofs (disch:=first|omega| (simp only[go_sem,lA,lD,lT] <;>omega) |decide) only[go_sem,↓reduceIte,Nat.reduceEqDiff,reduceCtorEq];all_goals (simp[hR])):p:=e
theorem P0 {gl:Nat→C}{M:Nat}{pu:Nat→List C→Option C}(hcx:CxOK (aS gl M pu))(h60:∀a b:ID,pu 60 [.agg (iD a),.agg (iD b)] =some (.val (.bool (decide (a=b)))))(l m:List ID)(ha:l.length≤1000000)(hb:m.length≤1000000):FC Tryd.prog gl 27 [sl iD .no l,sl iD .no m] [] (.val (.bool (decide (l=m)))) []:=by
 replace hcx:=hcx.reN (M:=27)
 refine cf (cx:=aS gl 27 pu) (rs:=[.tmp 4]) rfl Tryd.func27 rfl rfl rfl (by simp only[List.length_cons,List.length_nil];decide) (by simp only[go_sem]) ?_
 simp only[dm,go_sem]
 have c0:=True.intro
 have c1:=True.intro
 have hy:=True.intro
 refine Tr.w hcx [] _ [] rfl rfl rfl ?_ gJ
 refine af fun K1 hK1=>?_
 by_cases c0: (l.length=m.length) =True
 ·
  have hlm:=of_eq_true c0
  refine Tr.w hcx [] _ [] rfl rfl rfl ?_ gJ
  refine au rfl ?_
  refine Tr.skip ?_
  refine hK1 _ ?_
  refine af fun K2 hK2=>?_
  refine Tr.w hcx [] _ [] rfl rfl rfl ?_ gJ
  refine Tr.k [0,1,5] ?_
  refine ax ?_
  refine bz (α:=Nat) (fun a=>[(0,?v0_1),(1,?v1_1),(5,.val (nI a))]) (fun a=>[]) (fun a=>a≤l.length∧∀j,j< a→gt l j=gt m j) (fun a=>l.length - a) (0) ⟨Nat.zero_le _,fun j hj=>by omega⟩ ?le_1 ?hh_1 ?bd_1
  case hh_1=>exact rfl
  case le_1=>exact LT
  rintro i ⟨hi,hn⟩
  refine af fun K3 hK3=>?_
  refine Tr.w hcx [] _ [] rfl rfl rfl ?_ gJ
  refine bc rfl (fun hc14=>?_) (fun hc14=>?_)
  ·
   refine Tr.skip ?_
   refine hK3 _ ?_
   refine af fun K4 hK4=>?_
   refine ax ?_
   by_cases c1:gt l i=gt m i
   ·
    refine bB hcx aW [] _ [] rfl rfl rfl rfl ?_ zm
    refine au rfl ?_
    refine Tr.skip ?_
    refine hK4 _ ?_
    refine Tr.v hcx [1000016] _ [] rfl rfl rfl ?_ gJ
    exact ⟨i+1,⟨⟨by omega,fun j hj=>(Nat.lt_succ_iff_lt_or_eq.1 hj).elim (hn j) (fun e=>by subst e;exact c1)⟩,O1⟩,LT,rfl⟩
   refine bB hcx aW [] _ [] rfl rfl rfl rfl ?_ zm
   refine bh rfl ?_
   have hR:¬l=m:=fun h=>c1 (by rw[h])
   refine Tr.w hcx [] _ [] rfl rfl rfl ?_ gJ
   exact Tr.ret tf
  obtain rfl:i=l.length:=by omega
  have hR:=GV hlm hn
  refine Tr.exit ?_
  refine hK2 _ ?_
  refine Tr.w hcx [] _ [] rfl rfl rfl ?_ gJ
  exact Tr.ret tf
 have c0: (l.length=m.length) =False:=eq_false (fun h=>c0 (eq_true h))
 refine Tr.w hcx [] _ [] rfl rfl rfl ?_ gJ
 refine bh rfl ?_
 have hR:¬l=m:=fun h=>of_eq_false c0 (by rw[h])
 refine Tr.w hcx [] _ [] rfl rfl rfl ?_ gJ
 exact Tr.ret tf
end Go.Sx
namespace Go.Sx
open Go.RowKit Go.Proofs
set_option maxRecDepth 100000
set_option maxHeartbeats 8000000
def pA (V:bY)(a:Nat):List aN:=(V.take a).flatMap (·.2)
def pV (w:aj)(v:Nat):List aN:=(w.take v).flatMap fun V=>pA V V.length
theorem lO (V:bY)(a:Nat)(h:a< V.length):pA V (a+1) =pA V a++(gt V a).2:=by
 unfold pA;rw[←eC V a h,List.flatMap_append];simp
theorem pL (w:aj)(v:Nat)(h:v< w.length):pV w (v+1) =pV w v++pA (gt w v) (gt w v).length:=by
 unfold pV;rw[←eC w v h,List.flatMap_append];simp
theorem GX (v a:Nat)(l:List aN): (jY v a l).map (·.2) =l:=by
 refine List.ext_getElem (by simp[jY]) fun i h1 h2=>?_
 simp[jY,gt,List.getD,List.getElem?_eq_getElem h2]
theorem uN (v:Nat)(V:bY):∀a,a≤V.length→((List.range a).flatMap fun a=>jY v a (gt V a).2).map (·.2) =pA V a
 |0,_=>rfl
 |a+1,h=>by rw[List.range_succ,List.flatMap_append,List.map_append,uN v V a (by omega),lO V a (by omega)];simp[GX]
theorem uO (w:aj):∀v,v≤w.length→((List.range v).flatMap fun v=>uQ v (gt w v)).map (·.2) =pV w v
 |0,_=>rfl
 |v+1,h=>by
  rw[List.range_succ,List.flatMap_append,List.map_append,uO w v (by omega),pL w v (by omega)]
  have:=uN v (gt w v) (gt w v).length (Nat.le_refl _)
  simp only[List.flatMap_cons,List.flatMap_nil,List.append_nil]
  exact congrArg _ this
theorem lP (w:aj):cB w=pV w w.length:=uO w _ (Nat.le_refl _)
theorem rh (w:aj)(v:Nat): (pV w v).length≤(cB w).length:=by
 rw[lP]
 unfold pV
 rw[List.take_length]
 conv=>rhs;rw[←List.take_append_drop v w]
 rw[List.flatMap_append,List.length_append];omega
theorem N9 (V:bY)(a:Nat): (pA V a).length≤(pA V V.length).length:=by
 unfold pA
 rw[List.take_length]
 conv=>rhs;rw[←List.take_append_drop a V]
 rw[List.flatMap_append,List.length_append];omega
theorem oO (w:aj)(v a:Nat)(h:v< w.length): (pV w v).length+(pA (gt w v) a).length≤(cB w).length:=by
 have h1:=rh w (v+1)
 rw[pL w v h,List.length_append] at h1
 have:=N9 (gt w v) a
 omega
end Go.Sx
