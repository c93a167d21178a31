/-
   And what follows.
-/
import Derived.Test.YtcpdlhgkdogdjaaDoorPar
import Derived.Test.YtcpdlhgkdogdjaaDoorPao
import Derived.Test.YtcpdlhgkdogdjaaDoorPaq
set_option linter.unusedSimpArgs false
set_option linter.unusedVariables false
namespace Go.Sx
open Go.RowKit Go.Proofs
def xA (V:bE)(a k:Nat):List C:=(cl aC V).set (a*2+1) (.gv 0 k (7,37))
def xV (w:ah)(v a k:Nat):List C:=(cl vC w).set v (.sl .no (gt w v).length (xA (gt w v) a k))
def xF (w:ah)(v a k:Nat):C:= .sl .no w.length (xV w v a k)
theorem VX (w:ah)(v a k:Nat): (xF w v a k).noR=xF w v a k:=rfl
theorem PH (w:ah)(v a k:Nat)(l:List C):aR (some (xF w v a k::l)) =some (xF w v a k::l):=rfl
theorem yG (V:bE)(a k:Nat): (xA V a k).length=V.length*2:=by unfold xA;rw[List.length_set,aD (f:=aC)]
theorem yH (w:ah)(v a k:Nat): (xV w v a k).length=w.length:=by unfold xV;rw[List.length_set,aD (f:=vC),Nat.mul_one]
theorem Aw {l:List C}{k:Nat}(h:k< l.length):l≠[]:=fun e=>by rw[e] at h;simp at h
theorem VY (P:Program)(a1 b1:Nat)(z1:List Value)(e:TypeId)(w:ah)(v a k:Nat)(i:C):p7 P (some ⟨.slice e,a1,b1,z1⟩) (xF w v a k) i=xq (td P e) (dP i w.length) w.length (xV w v a k):=rfl
theorem VZ (P:Program)(a1 b1:Nat)(z1:List Value)(e:TypeId)(V:bE)(n a k:Nat)(i:C):p7 P (some ⟨.slice e,a1,b1,z1⟩) (.sl .no n (xA V a k)) i=xq (td P e) (dP i n) n (xA V a k):=rfl
theorem V0 (u:TypeDesc)(y:Nat)(z:List Value)(w:ah)(v a k:Nat)(h:v< w.length):xq (some ⟨u,1,y,z⟩) (some v) w.length (xV w v a k) =some (vp (.kp ((xV w v a k).drop v))):=by
 show (if (xV w v a k).length=w.length*1∧xV w v a k≠[] then some (vp (.kp ((xV w v a k).drop (v*1)))) else none) =_;rw[if_pos ⟨by rw[yH,Nat.mul_one],Aw (k:=v) (by rw[yH];exact h)⟩,Nat.mul_one]
theorem V4 (u:TypeDesc)(y:Nat)(z:List Value)(V:bE)(n a k:Nat)(h:a< n)(hn:n=V.length):xq (some ⟨u,2,y,z⟩) (some a) n (xA V a k) =some (vp (.kp ((xA V a k).drop (a*2)))):=by
 subst hn;show (if (xA V a k).length=V.length*2∧xA V a k≠[] then some (vp (.kp ((xA V a k).drop (a*2)))) else none) =_;rw[if_pos ⟨yG V a k,Aw (k:=a) (by rw[yG];omega)⟩]
theorem yI (w:ah)(v a k:Nat)(h:v< w.length):cb (xV w v a k) v=some (.sl .no (gt w v).length (xA (gt w v) a k)):=lE (by rw[aD (f:=vC),Nat.mul_one];exact h) rfl
theorem yJ (w:ah)(v a k:Nat)(h:v< w.length):eA (xV w v a k) v 1=some (.agg [.sl .no (gt w v).length (xA (gt w v) a k)]):=yx (by rw[aD (f:=vC),Nat.mul_one];exact h) rfl
theorem yK (V:bE)(a k:Nat)(h:a< V.length):cb (xA V a k) (a*2+1) =some (.gv 0 k (7,37)):=lE (by rw[aD (f:=aC)];omega) rfl
theorem oq {α:Type}(f:α→List C)(hf:∀b ys x,dpCs b ys (f x) =f x)(b:Nat)(ys:List C):∀l:List α,dpCs b ys (cl f l) =cl f l
 | [] =>rfl
 |x::l=>by
  have e:∀ (p q:List C),dpCs b ys (p++q) =dpCs b ys p++dpCs b ys q:=by
   intro p q
   induction p with
   |nil=>rfl
   |cons c p ih=>simp only[List.cons_append,dpCs,ih]
  rw[cg,e,hf,oq f hf b ys l]
theorem u0 (b:Nat)(ys:List C)(x:C):∀ (l:List C)(i:Nat),dpCs b ys (l.set i x) = (dpCs b ys l).set i (g7 b ys x)
 | [],_=>by simp only[List.set_nil,dpCs]
 |y::l,0=>by simp only[List.set_cons_zero,dpCs]
 |y::l,i+1=>by simp only[List.set_cons_succ,dpCs,u0 b ys x l i]
theorem V8 (b:Nat)(ys:List C)(x:ID):dpCs b ys (iD x) =iD x:=rfl
theorem V9 (b:Nat)(ys:List C)(x:aI):dpCs b ys (pC x) =pC x:=by
 show dpCs b ys [_,_,_,_,_,_,sl iD .no x.2.2.2.2] =_;simp only[dpCs,g7,sl,oq iD (V8)];rfl
theorem FK (b:Nat)(ys:List C)(x:dG):dpCs b ys (aC x) =aC x:=by
 show dpCs b ys [_,sl pC .no x.2] =_;simp only[dpCs,g7,sl,oq pC (V9)];rfl
theorem Wa (b:Nat)(ys:List C)(x:bE):dpCs b ys (vC x) =vC x:=by
 show dpCs b ys [sl aC .no x] =_;simp only[dpCs,g7,sl,oq aC (FK)];rfl
theorem FL (w:ah)(v a:Nat)(L:List aI):C.sl .no w.length ((cl vC w).set v (.sl .no (gt w v).length (cl aC ((gt w v).set a ((gt (gt w v) a).1,L))))) =sl vC .no (setL w v a L):=by
 unfold setL;have:∀V:bE,V.length= (gt w v).length→(C.sl .no (gt w v).length (cl aC V)) =sl aC .no V:=fun V h=>by rw[←h];rfl
 rw[this _ (List.length_set ..),oo];unfold sl;rw[List.length_set]
theorem Zp (w:ah)(v a:Nat)(L:List aI)(hv:v< w.length):g7 0 (cl pC L) (xF w v a L.length) =sl vC .no (setL w v a L):=by
 have hL: (cl pC L).length=L.length*7:=aD (f:=pC) L;have e1:g7 0 (cl pC L) (.gv 0 L.length (7,37)) =sl pC .no L:=by
  unfold g7;rw[if_pos ⟨rfl,by rw[hL];exact Nat.le_refl _⟩];show C.sl .no L.length ((cl pC L).take (L.length*7)) =_;rw[←hL,List.take_length];rfl
 unfold xF xV xA;have e3:∀ (r:Rt)(n:Nat)(xs:List C),g7 0 (cl pC L) (.sl r n xs) = .sl r n (dpCs 0 (cl pC L) xs):=fun _ _ _=>rfl;rw[e3,u0,oq vC Wa,e3,u0,oq aC FK,e1,om,FL]
theorem Wb {cx:Cx}{g:Nat}{w:ah}{v a k:Nat}{L:List aI}{rest:List C}{c:C}(hv:v< w.length)(hk:k=L.length)(hr:dpCs 0 (cl pC L) rest=rest)(hn:noRefs 0 (.agg [sl vC .no (setL w v a L)]::rest) =true)(hp:cx.pu g (.agg [sl vC .no (setL w v a L)]::rest) =some c)(hf:flat c=true):rdE cx g (.agg [xF w v a k]::rest) 0 (cl pC L) =some c:=by
 subst hk;have e:dpCs 0 ((cl pC L).map C.noR) (.agg [xF w v a L.length]::rest) = .agg [sl vC .no (setL w v a L)]::rest:=by
  rw[dL];show g7 0 (cl pC L) (.agg [xF w v a L.length])::dpCs 0 (cl pC L) rest=_;rw[hr];show C.agg (dpCs 0 (cl pC L) [xF w v a L.length])::rest=_;show C.agg [g7 0 (cl pC L) (xF w v a L.length)]::rest=_;rw[Zp w v a L hv]
 unfold rdE;rw[e,if_pos hn,hp];simp only[hf,if_true]
theorem Zq (ok:Nat→Bool)(w:ah)(v a k:Nat)(L:List aI)(hk:k=L.length):bh ok 0 (cl pC L) (xF w v a k) =sl vC .no (setL w v a L):=by
 subst hk;rw[←FL];unfold xF xV xA;simp only[bh,kE,kw];have hL: (cl pC L).length=L.length*7:=aD (f:=pC) L;rw[if_pos trivial,if_pos (by rw[hL];exact Nat.le_refl _),←hL,List.take_length];congr 3
 exact om (gt w v) a L
theorem su (ok:Nat→Bool)(x:C):∀ (l:List C)(i:Nat),scrs ok (l.set i x) = (scrs ok l).set i (cW ok x)
 | [],_=>by simp only[List.set_nil,scrs]
 |y::l,0=>by simp only[List.set_cons_zero,scrs]
 |y::l,i+1=>by simp only[List.set_cons_succ,scrs,su ok x l i]
theorem Ax (ok:Nat→Bool)(a k:Nat)(V:bE)(h:ok 2=true):scrs ok (fA 0 a k V) =fA 0 a k V:=by
 unfold fA;rw[su,qR];simp only[cW,h,if_true]
theorem Wc (ok:Nat→Bool)(v a k m:Nat)(w:ah)(V:bE)(h:m=V.length):fzCs ok 1 (fA 0 a k V) (fV 0 v m w) = (cl vC w).set v (.sl .no m (fA 0 a k V)):=by
 subst h;unfold fV;rw[kE,kw,qi,if_pos rfl];unfold jS;simp only[];rw[if_pos (by rw[yu];exact Nat.le_refl _),←yu 0 a k V,List.take_length]
theorem PJ (w:ah)(v n:Nat)(xs:List C): ((cl vC w).set v (.sl .no n xs)).map C.noR= (cl vC w).set v (.sl .no n xs):=by rw[List.map_set,dL];rfl
theorem Wd (ok:Nat→Bool)(v n a k:Nat)(w:ah)(V:bE)(h:ok 2=true):scrs ok ((cl vC w).set v (.sl .no n (fA 0 a k V))) = (cl vC w).set v (.sl .no n (fA 0 a k V)):=by
 rw[su,qR];simp only[cW,Ax _ _ _ _ h]
theorem We (w:ah)(v:Nat)(c:C):jS ((cl vC w).set v c) w.length (1,46) = .sl .no w.length ((cl vC w).set v c):=by
 have hl: ((cl vC w).set v c).length=w.length*1:=by rw[List.length_set,aD (f:=vC)]
 unfold jS;simp only[];rw[if_pos (by rw[hl];exact Nat.le_refl _),←hl,List.take_length]
theorem Wf (w:ah)(v n:Nat)(xs:List C):aR (some ((cl vC w).set v (.sl .no n xs))) =some ((cl vC w).set v (.sl .no n xs)):=jT (iQ vC w) v rfl
theorem ac9 (w:ah)(v a k:Nat):aU [2,3,4] (.sl .no w.length ((cl vC w).set v (.sl .no (gt w v).length (fA 0 a k (gt w v))))) =xF w v a k:=by
 unfold xF xV xA fA;simp only[aU,kC,c9];rfl
theorem Ke {cx:Cx}{w:ah}{v a k:Nat}{x:ID}{c:C}(hv:v< w.length)(hk:k= (gt (gt w v) a).2.length)(hp:cx.pu 33 [.agg [sl vC .no w],.agg (iD x)] =some c)(hf:flat c=true):rdE cx 33 [.agg [xF w v a k],.agg (iD x)] 0 (cl pC (gt (gt w v) a).2) =some c:=
 Wb hv hk rfl (by
  show (noRefs 0 [sl vC .no (setL w v a (gt (gt w v) a).2)] && (noRefs 0 (iD x) && true)) =true;have e:noRefs 0 [sl vC .no (setL w v a (gt (gt w v) a).2)] =true:=by simp only[noRefs,bf,Bool.and_self]
  rw[e];rfl) (by rw[Fy];exact hp) hf
attribute [go_sem] Ax Wd PJ Wc We Wf Zq
theorem Ch (w:ah)(v a k:Nat):ae 1 (.agg [xF w v a k]) =true:=by
 show (noRefs 1 (xV w v a k) && true) =true;rw[Bool.and_true];have h1:noRefs 1 (xA (gt w v) a k) =true:=j4 1 (.gv 0 k (7,37)) rfl _ _ (bQ aC 1 _);exact j4 1 (.sl .no (gt w v).length (xA (gt w v) a k)) h1 _ _ (bQ vC 1 w)
theorem PK (w:ah)(v a k:Nat): (xF w v a k).asSv=xF w v a k:=rfl
theorem Kf (e a1 b1:Nat)(z1:List Value)(w:ah)(v a k:Nat):ux (some ⟨.slice e,a1,b1,z1⟩) (xF w v a k) =some (vp (.val (nI w.length))):=rfl
theorem Kg (e a1 b1:Nat)(z1:List Value)(n:Nat)(xs:List C):ux (some ⟨.slice e,a1,b1,z1⟩) (C.sl .no n xs) =some (vp (.val (nI n))):=rfl
attribute [go_sem] Kf Kg PK
theorem lP (l:List aI)(k:Nat):jG k [some (cl pC l)] =true:=by
 rw[xL,zY,Bool.and_true];exact bQ pC k l
attribute [go_sem] VX PH yG yH
attribute [go_sem high] VY VZ V0 V4 yI yJ yK
set_option maxRecDepth 100000
set_option maxHeartbeats 8000000
theorem kF {p:Prop}(e:p:=by intro KZ hZ;simp -implicitDefEqProofs (maxSteps:=2000000) (disch:=first|omega| (simp only[go_sem,lA,lD,lT,hwl,hVl,hLl] <;>omega) |decide) only[go_sem,↓reduceIte,Nat.reduceEqDiff,reduceCtorEq,Nat.reduceLT,Nat.reduceBEq,Nat.reduceAdd,Nat.not_lt_zero,hv1,ha1,hj1,hX,hy];with_reducible exact hZ):p:=e
theorem PD {p:Prop}(e:p:=by simp -implicitDefEqProofs (disch:=first|omega| (simp only[go_sem,lA,lD,lT,hwl,hVl,hLl] <;>omega) |decide) only[go_sem,↓reduceIte,Nat.reduceEqDiff,reduceCtorEq];all_goals (exact ⟨rfl,rfl⟩)):p:=e
theorem Zn {gl:Nat→C}{M:Nat}{pu:Nat→List C→Option C}(hcx:CxOK (ax gl M pu))(w:ah)(v a j:Nat)(hv:v< w.length)(ha:a< (gt w v).length)(hj:j< (gt (gt w v) a).2.length)(hw:WG w):FC Tryd.prog gl 35 [.agg [xF w v a (gt (gt w v) a).2.length],.agg [.val (nI v),.val (nI a),.val (nI j)]] [some (cl pC (gt (gt w v) a).2)] (.tup [.agg (pC (gt (gt (gt w v) a).2 j)),.val (.bool true)]) [some (cl pC (gt (gt w v) a).2)]:=by
 replace hcx:=hcx.reN (M:=61);refine n5 (cx:=ax gl 61 pu) (rs:=[.cell 4 37,.tmp 5]) rfl Tryd.func35 rfl rfl rfl (by simp only[List.length_cons,List.length_nil];decide) (by simp only[go_sem]) (lP _ 1) ?_;simp only[bj,go_sem];have hy:=True.intro;have hwl:=hw.n;have hwv:=hw.v _ (bc w v hv);have hVl:=hwv.1;have hwa:=hwv.2 _ (bc _ a ha);have hLl:=hwa.2.1;have hv1: (w.length≤v) =False:=eq_false (by omega);have ha1: ((gt w v).length≤a) =False:=eq_false (by omega);have hj1: ((gt (gt w v) a).2.length≤j) =False:=eq_false (by omega);have hX:=And.intro (yI w v a (gt (gt w v) a).2.length hv) (And.intro (yJ w v a (gt (gt w v) a).2.length hv) (yK (gt w v) a (gt (gt w v) a).2.length ha));refine Tr.w hcx [] _ [none,none,none] rfl rfl rfl ?_ kF;refine aa fun K1 hK1=>?_;refine Tr.w hcx [] [some 8,some 9,some 10,some 11,some 12,some 13,some 14,some 15,some 16,some 17,some 18] [] rfl rfl rfl ?_ kF;refine aq rfl ?_;refine Tr.skip ?_;refine hK1 _ ?_;refine Tr.w hcx [] _ [none] rfl rfl rfl ?_ kF;refine Tr.k [3,4,6] ?_;refine aa fun K2 hK2=>?_;refine Tr.w hcx [] [some 26,some 27,some 28,some 29,some 30,some 31,some 32,some 33,some 34,some 35,some 36] [] rfl rfl rfl ?_ kF;refine aq rfl ?_;refine Tr.skip ?_;refine hK2 _ ?_;refine Tr.w hcx [1000044] _ [] rfl rfl rfl ?_ kF;refine Tr.k [3,4,7] ?_;refine aa fun K3 hK3=>?_;refine Tr.w hcx [] [some 45,some 46,some 47,some 48,some 49,some 50,some 51,some 52,some 53,some 54] [] rfl rfl rfl ?_ kF;refine aq rfl ?_;refine Tr.skip ?_;refine hK3 _ ?_;refine Tr.w hcx [] _ [] rfl rfl rfl ?_ kF;exact Tr.ret PD
theorem bn {p:Prop}(e:p:=by intro KZ hZ;simp -implicitDefEqProofs (maxSteps:=2000000) (disch:=first|omega| (simp only[go_sem,lA,lD,lT,yy,uX] <;>omega) |decide) only[go_sem,↓reduceIte,Nat.reduceEqDiff,reduceCtorEq,Nat.reduceLT,Nat.reduceBEq,Nat.reduceAdd,n35,e35,h19,hX,Au,e7,hy];with_reducible exact hZ):p:=e
theorem PF {p:Prop}(e:p:=by intro KZ hZ;simp -implicitDefEqProofs (maxSteps:=2000000) (disch:=first|omega| (simp only[go_sem,lA,lD,lT,yy,uX] <;>omega) |decide) only[go_sem,↓reduceIte,Nat.reduceEqDiff,reduceCtorEq,Nat.reduceLT,Nat.reduceBEq,Nat.reduceAdd,n35,e35,h19,hX,Au,e7,hy];with_reducible refine And.intro ?_ hZ;first|exact rfl|decide):p:=e
theorem gT {p:Prop}(e:p:=by simp -implicitDefEqProofs (disch:=first|omega| (simp only[go_sem,lA,lD,lT,yy,uX] <;>omega) |decide) only[go_sem,↓reduceIte,Nat.reduceEqDiff,reduceCtorEq];all_goals (first| (rw[hC];done) | (rw[hC];rfl))):p:=e
theorem Zo {gl:Nat→C}{M0:Nat}{pu:Nat→List C→Option C}{hp:Nat→List C→Hp→Option (C×Hp)}(hcx:CxOK (cJ gl M0 pu hp))(w:ah)(v a j:Nat)(how y:Int)(hv:v< w.length)(ha:a< (gt w v).length)(hj:j< (gt (gt w v) a).2.length)(hw:WG w)(hho: -9223372036854775808≤how∧how≤9223372036854775807)(hy0: -9223372036854775808≤y∧y≤9223372036854775807)(n35:∀xs:List C,pu 35 xs=none)(hq35:∀suf:Hp,OkH suf→hp 35 [.agg [xF w v a (gt (gt w v) a).2.length],.agg [.val (nI v),.val (nI a),.val (nI j)]] ([some (cl pC (gt (gt w v) a).2)]++suf) =some (.tup [.agg (pC (gt (gt (gt w v) a).2 j)),.val (.bool true)],[some (cl pC (gt (gt w v) a).2)]++suf))(h19:∀ (n:Int) (m:Nat),-9223372036854775808≤n∧n≤9223372036854775807∧0< m∧m≤9223372036854775807→pu 19 [.val (.int .i64 n),.val (nI m)] =some (.val (nI (ag n m)))):FC Tryd.prog gl 92 [.agg [xF w v a (gt (gt w v) a).2.length],.agg [.val (nI v),.val (nI a),.val (nI j)],.val (.int .i64 how),.val (.int .i64 y)] [some (cl pC (gt (gt w v) a).2)] (.agg [xF w v a (gt (gt w v) a).2.length]) [some (cl pC ((gt (gt w v) a).2.set j (dT (gt (gt (gt w v) a).2 j) how y)))]:=by
 replace hcx:=hcx.reN (M:=120);refine n5 (cx:=cJ gl 120 pu hp) (rs:=[.cell 8 29]) rfl Tryd.func92 rfl rfl rfl (by simp only[List.length_cons,List.length_nil];decide) (Ch ..) (lP _ 1) ?_;simp only[bj,go_sem];have hy:=True.intro;have hwl:=hw.n;have hwv:=hw.v _ (bc w v hv);have hVl:=hwv.1;have hwa:=hwv.2 _ (bc _ a ha);have hLl:=hwa.2.1;have hv1: (w.length≤v) =False:=eq_false (by omega);have ha1: ((gt w v).length≤a) =False:=eq_false (by omega);have hj1: ((gt (gt w v) a).2.length≤j) =False:=eq_false (by omega);have hX:=And.intro (yI w v a (gt (gt w v) a).2.length hv) (And.intro (yJ w v a (gt (gt w v) a).2.length hv) (yK (gt w v) a (gt (gt w v) a).2.length ha));have bM:= @gY;have hPg:=hwa.2.2 _ (bc _ j hj);have e35:=hq35 [some [xF w v a (gt (gt w v) a).2.length],some [.val (nI v),.val (nI a),.val (nI j)],some [.val (.slice none 0 0)],none] (OkH.cons rfl (OkH.cons rfl (OkH.cons rfl (OkH.cons rfl OkH.nil))));simp only[List.cons_append,List.nil_append] at e35;have hA4:=bv y (m:=4) (by decide);have hA9:=bv y (m:=9) (by decide);have hA7:=bv y (m:=7) (by decide);have e7:aw Tryd.prog .sub 3 (.val (nI (ag y 7))) (.val (nI 1)) =some (vp (.val (.int .i64 (((ag y 7:Nat):Int) - 1)))):=wj _ _ _ _ (by omega);obtain ⟨P,hP⟩:∃P,gt (gt (gt w v) a).2 j=P:=⟨_,rfl⟩;rw[hP] at e35 hPg;rw[hP];have hPt:=hPg.1;have hPr:=hPg.2.1;refine Tr.w hcx [] _ [none,none,none] rfl rfl rfl ?_ bn;refine Tr.w hcx [1000017] _ [none] rfl rfl rfl ?_ bn;refine aa fun K1 hK1=>?_;refine Tr.w hcx [] _ [] rfl rfl rfl ?_ bn;refine aq rfl ?_;refine Tr.skip ?_;refine hK1 _ ?_;refine Tr.k [2,3,4,5,8,9] ?_;refine cf hcx bM [1000032] _ [] rfl rfl rfl rfl ?_ PF;refine aa fun K2 hK2=>?_;refine Tr.w hcx [] _ [] rfl rfl rfl ?_ bn;refine Tr.blk ?_;refine Tr.w hcx [1000040] _ [] rfl rfl rfl ?_ bn;refine af rfl (fun hc39=>?_) (fun hc39=>?_)
 ·
  have hC:dT P how y=lq P y 0:=by unfold dT;rw[hc39]
  refine Tr.v hcx [] _ [] rfl rfl rfl ?_ bn;refine hK2 _ ?_;refine Tr.k [4,5,8,9,11] ?_;skip;refine Tr.w hcx [] _ [] rfl rfl rfl ?_ bn;refine Tr.w hcx [] _ [] rfl rfl rfl ?_ bn;exact Tr.ret gT
 refine Tr.w hcx [1000050] _ [] rfl rfl rfl ?_ bn;refine af rfl (fun hc49=>?_) (fun hc49=>?_)
 ·
  have hC:dT P how y=lq P y 1:=by unfold dT;rw[hc49]
  refine Tr.v hcx [] _ [] rfl rfl rfl ?_ bn;refine hK2 _ ?_;refine Tr.k [4,5,8,9,11] ?_;skip;refine Tr.w hcx [] _ [] rfl rfl rfl ?_ bn;refine Tr.w hcx [] _ [] rfl rfl rfl ?_ bn;exact Tr.ret gT
 refine Tr.w hcx [1000060] _ [] rfl rfl rfl ?_ bn;refine Tr.k [3,4,5,8,9,11,34,59] ?_;refine af rfl (fun hc59=>?_) (fun hc59=>?_)
 ·
  have hC:dT P how y=lq P y 2:=by unfold dT;rw[hc59]
  refine Tr.v hcx [] _ [] rfl rfl rfl ?_ bn;refine hK2 _ ?_;skip;refine Tr.w hcx [] _ [] rfl rfl rfl ?_ bn;refine Tr.w hcx [] _ [] rfl rfl rfl ?_ bn;exact Tr.ret gT
 refine Tr.w hcx [1000070] _ [] rfl rfl rfl ?_ bn;refine af rfl (fun hc69=>?_) (fun hc69=>?_)
 ·
  have hC:dT P how y=lq P y 3:=by unfold dT;rw[hc69]
  refine Tr.v hcx [] _ [] rfl rfl rfl ?_ bn;refine hK2 _ ?_;skip;refine Tr.w hcx [] _ [] rfl rfl rfl ?_ bn;refine Tr.w hcx [] _ [] rfl rfl rfl ?_ bn;exact Tr.ret gT
 refine Tr.w hcx [1000076] _ [] rfl rfl rfl ?_ bn;refine af rfl (fun hc75=>?_) (fun hc75=>?_)
 ·
  have hC:dT P how y=lq P y 4:=by unfold dT;rw[hc75]
  refine Tr.v hcx [] _ [] rfl rfl rfl ?_ bn;refine hK2 _ ?_;skip;refine Tr.w hcx [] _ [] rfl rfl rfl ?_ bn;refine Tr.w hcx [] _ [] rfl rfl rfl ?_ bn;exact Tr.ret gT
 refine Tr.w hcx [1000082] _ [] rfl rfl rfl ?_ bn;refine af rfl (fun hc81=>?_) (fun hc81=>?_)
 ·
  have hC:dT P how y=lq P y 5:=by unfold dT;rw[hc81]
  refine Tr.v hcx [] _ [] rfl rfl rfl ?_ bn;refine hK2 _ ?_;skip;refine Tr.w hcx [] _ [] rfl rfl rfl ?_ bn;refine Tr.w hcx [] _ [] rfl rfl rfl ?_ bn;exact Tr.ret gT
 refine Tr.w hcx [1000090] _ [] rfl rfl rfl ?_ bn;refine af rfl (fun hc89=>?_) (fun hc89=>?_)
 ·
  have hC:dT P how y=lq P y 6:=by unfold dT;rw[hc89]
  refine Tr.v hcx [91,94] _ [] rfl rfl rfl ?_ bn;refine hK2 _ ?_;refine Tr.k [4,5,8,9,11] ?_;refine Tr.bxc 4 6 (sl iD .no (P.2.2.2.2++[(((0:Nat):Int),((ag y 9:Nat):Int),((0:Nat):Int))])) ((pC P).set 6 (sl iD (.own 3) (P.2.2.2.2++[(((0:Nat):Int),((ag y 9:Nat):Int),((0:Nat):Int))]))) rfl rfl (CLe.noR (sl iD (.own 3) _)) rfl ?_;simp only[yA];simp only[List.set_cons_succ,List.set_cons_zero]
  refine Tr.w hcx [] _ [] rfl rfl rfl ?_ bn;refine Tr.w hcx [] _ [] rfl rfl rfl ?_ bn;exact Tr.ret gT
 refine Tr.w hcx [1000102] _ [] rfl rfl rfl ?_ bn;refine af rfl (fun hc101=>?_) (fun hc101=>?_)
 ·
  have hC:dT P how y=lq P y 7:=by unfold dT;rw[hc101]
  refine Tr.v hcx [] _ [] rfl rfl rfl ?_ bn;refine hK2 _ ?_;refine Tr.k [4,5,8,9,11] ?_;refine Tr.bxc 4 6 (sl iD .no [(-1,((0:Nat):Int),((ag y 2:Nat):Int))]) ((pC P).set 6 (sl iD .full [(-1,((0:Nat):Int),((ag y 2:Nat):Int))])) rfl rfl (CLe.full ..) rfl ?_;simp only[yA];simp only[List.set_cons_succ,List.set_cons_zero]
  refine Tr.w hcx [] _ [] rfl rfl rfl ?_ bn;refine Tr.w hcx [] _ [] rfl rfl rfl ?_ bn;exact Tr.ret gT
 refine Tr.w hcx [1000109] _ [] rfl rfl rfl ?_ bn;refine af rfl (fun hc108=>?_) (fun hc108=>?_)
 ·
  have hC:dT P how y=lq P y 8:=by unfold dT;rw[hc108]
  refine Tr.v hcx [] _ [] rfl rfl rfl ?_ bn;refine hK2 _ ?_;refine Tr.k [4,5,8,9,11] ?_;skip;refine Tr.w hcx [] _ [] rfl rfl rfl ?_ bn;refine Tr.w hcx [] _ [] rfl rfl rfl ?_ bn;exact Tr.ret gT
 have hC:dT P how y=_:=Vy hc39 hc49 hc59 hc69 hc75 hc81 hc89 hc101 hc108;refine Tr.v hcx [] _ [] rfl rfl rfl ?_ bn;refine hK2 _ ?_;refine Tr.k [4,5,8,9,11] ?_;skip;refine Tr.w hcx [] _ [] rfl rfl rfl ?_ bn;refine Tr.w hcx [] _ [] rfl rfl rfl ?_ bn;exact Tr.ret gT
theorem ot {p:Prop}(e:p:=by intro KZ hZ;simp -implicitDefEqProofs (maxSteps:=2000000) (disch:=first|omega| (simp only[go_sem,lA,lD,lT,hwl] <;>omega) |decide) only[go_sem,↓reduceIte,Nat.reduceEqDiff,reduceCtorEq,Nat.reduceLT,Nat.reduceBEq,Nat.reduceAdd,n20,n14,n33,n92,e20,e14,e33,e92,h19,h1,h0,hy];with_reducible exact hZ):p:=e
theorem PL {p:Prop}(e:p:=by intro KZ hZ;simp -implicitDefEqProofs (maxSteps:=2000000) (disch:=first|omega| (simp only[go_sem,lA,lD,lT,hwl] <;>omega) |decide) only[go_sem,↓reduceIte,Nat.reduceEqDiff,reduceCtorEq,Nat.reduceLT,Nat.reduceBEq,Nat.reduceAdd,n20,n14,n33,n92,e20,e14,e33,e92,h19,h1,h0,hy];with_reducible refine And.intro ?_ hZ;first|exact rfl|decide):p:=e
theorem PM {p:Prop}(e:p:=by simp -implicitDefEqProofs (disch:=first|omega| (simp only[go_sem,lA,lD,lT,hwl] <;>omega) |decide) only[go_sem,↓reduceIte,Nat.reduceEqDiff,reduceCtorEq];all_goals (rw[hS])):p:=e
theorem Zr {gl:Nat→C}{M0:Nat}{pu:Nat→List C→Option C}{hp:Nat→List C→Hp→Option (C×Hp)}(hcx:CxOK (cJ gl M0 pu hp))(w:ah)(how y:Int)(v a:Nat)(hw:WG w)(hho: -9223372036854775808≤how∧how≤9223372036854775807)(hy0: -9223372036854775808≤y∧y≤9223372036854775807)(j:Nat)(hv:v< w.length)(ha:a< (gt w v).length)(hj:j< (gt (gt w v) a).2.length)(h0:0< (cm w).length)(h1:ag how 2=0)(hf:dj w (gt (cm w) (ag y (cm w).length)).1= ((v,a,j),true))(n20:∀xs:List C,pu 20 xs=none)(n14:∀xs:List C,pu 14 xs=none)(n33:∀ (xs:List C) (k:Nat),pu 33 (.agg [xF w v a k]::xs) =none)(n92:∀xs:List C,pu 92 xs=none)(hq20:∀pre:Hp,OkH pre→hp 20 [.agg [sl vC .no w]] pre=some (.agg [.gv pre.length w.length (1,46)],pre++[some (fV pre.length v (gt w v).length w),some (fA pre.length a (gt (gt w v) a).2.length (gt w v)),some (cl pC (gt (gt w v) a).2),some [.gv pre.length w.length (1,46)]]))(hq14:∀suf:Hp,OkH suf→hp 14 [.agg [.gv 0 w.length (1,46)]] ([some (fV 0 v (gt w v).length w),some (fA 0 a (gt (gt w v) a).2.length (gt w v)),some (cl pC (gt (gt w v) a).2)]++suf) =some (sl pC (.own 7) (cm w),[some (fV 0 v (gt w v).length w),some (fA 0 a (gt (gt w v) a).2.length (gt w v)),some (cl pC (gt (gt w v) a).2)]++suf))(h33:∀ (w:ah) (id:ID),WB w→pu 33 [.agg [sl vC .no w],.agg (iD id)] =some (.tup [.agg [.val (nI (dj w id).1.1),.val (nI (dj w id).1.2.1),.val (nI (dj w id).1.2.2)],.val (.bool (dj w id).2)]))(hq92:∀suf:Hp,OkH suf→hp 92 [.agg [xF w v a (gt (gt w v) a).2.length],.agg [.val (nI v),.val (nI a),.val (nI j)],.val (.int .i64 (how.tdiv ((2:Nat):Int))),.val (.int .i64 (y.tdiv ((8:Nat):Int)))] ([some (cl pC (gt (gt w v) a).2)]++suf) =some (.agg [xF w v a (gt (gt w v) a).2.length],[some (cl pC ((gt (gt w v) a).2.set j (dT (gt (gt (gt w v) a).2 j) (how.tdiv ((2:Nat):Int)) (y.tdiv ((8:Nat):Int)))))]++suf))(h19:∀ (n:Int) (m:Nat),-9223372036854775808≤n∧n≤9223372036854775807∧0< m∧m≤9223372036854775807→pu 19 [.val (.int .i64 n),.val (nI m)] =some (.val (nI (ag n m)))):FC Tryd.prog gl 51 [.agg [sl vC .no w],.val (.int .i64 how),.val (.int .i64 y)] [] (.agg [sl vC .no (cR w how y)]) []:=by
 replace hcx:=hcx.reN (M:=242);refine aH (cx:=cJ gl 242 pu hp) (rs:=[.cell 6 29]) rfl Tryd.func51 rfl rfl rfl (by simp only[List.length_cons,List.length_nil];decide) (by simp only[go_sem]) ?_;simp only[bj,go_sem];have hy:=True.intro;have bM:= @gY;have hwl:=hw.n;have hal:=hw.al;have e20:=hq20 [some [sl vC .no w],some [.val (.slice none 0 0)],none] (OkH.cons rfl (OkH.cons rfl (OkH.cons rfl OkH.nil)));simp only[List.length_cons,List.length_nil,List.cons_append,List.nil_append,Nat.zero_add,Nat.reduceAdd] at e20;have e14:=hq14 [some [.val (.slice none 0 0)],some [.gv 0 w.length (1,46)]] (OkH.cons rfl (OkH.cons rfl OkH.nil));simp only[List.cons_append,List.nil_append] at e14;have hay:=bv y (m:=(cm w).length) h0;have p33:=h33 w (gt (cm w) (ag y (cm w).length)).1 hw.wb;rw[hf] at p33;have e33:=Ke (cx:=(cJ gl 242 pu hp).grow [1000033]) (a:=a) hv rfl p33 rfl;have e92:=hq92 [some [.val (.slice none 0 0)],some [xF w v a (gt (gt w v) a).2.length],some [.val (nI v),.val (nI a),.val (nI j)]] (OkH.cons rfl (OkH.cons rfl (OkH.cons rfl OkH.nil)));simp only[List.cons_append,List.nil_append] at e92;have hS:cR w how y=setL w v a ((gt (gt w v) a).2.set j (dT (gt (gt (gt w v) a).2 j) (how.tdiv ((2:Nat):Int)) (y.tdiv ((8:Nat):Int)))):=by unfold cR;rw[if_pos ⟨h0,h1⟩,hf]
 refine Tr.w hcx [] _ [none,none] rfl rfl rfl ?_ ot;refine Tr.w hcx [] _ [none] rfl rfl rfl ?_ ot;refine Tr.k [1,2,6,7] ?_;refine aW hcx [3,4,5,1,2] ?_;simp only[yB (ρ:=[3,4,5,1,2]) (n:=3) (k:=0) (fun _=>rfl),Fx (ρ:=[3,4,5,1,2]) (n:=3) (k:=0) (fun _=>rfl)];refine Tr.w hcx [1000018] _ [] rfl rfl rfl ?_ ot;refine aa fun K1 hK1=>?_;refine Tr.w hcx [] [some 19,some 20,some 21,some 22,some 23,some 24,some 25,some 26] [] rfl rfl rfl ?_ ot;refine aG rfl ?_;refine aL hcx 1 (fA 0 a (gt (gt w v) a).2.length (gt w v)) ?_;refine aL hcx 0 ((cl vC w).set v (.sl .no (gt w v).length (fA 0 a (gt (gt w v) a).2.length (gt w v)))) ?_;refine Tr.k [1,2,6,7,8] ?_;refine aW hcx [2,3,4] ?_;simp only[ac9];refine EF hcx bM [1000033] [1000039] _ [none] rfl rfl rfl rfl ?_ PL;refine Tr.k [1,2,6,7,9] ?_;refine Tr.w hcx [] _ [] rfl rfl rfl ?_ ot;refine aL hcx 0 (cl pC ((gt (gt w v) a).2.set j (dT (gt (gt (gt w v) a).2 j) (how.tdiv ((2:Nat):Int)) (y.tdiv ((8:Nat):Int))))) ?_;exact Tr.ret PM
theorem bH {p:Prop}(e:p:=by intro KZ hZ;simp -implicitDefEqProofs (maxSteps:=2000000) (disch:=first|omega| (simp only[go_sem,lA,lD,lT,hwl,hVl,hLl,uY] <;>omega) |decide) only[go_sem,↓reduceIte,Nat.reduceEqDiff,reduceCtorEq,Nat.reduceLT,Nat.reduceBEq,Nat.reduceAdd,n20,n14,e20,e14,h19,c1,hK9,hV,hR2,Ly,Lz,e21,Av,yD,FH,c0,ck,hy];with_reducible exact hZ):p:=e
theorem i7 {p:Prop}(e:p:=by intro KZ hZ;simp -implicitDefEqProofs (maxSteps:=2000000) (disch:=first|omega| (simp only[go_sem,lA,lD,lT,hwl,hVl,hLl,uY] <;>omega) |decide) only[go_sem,↓reduceIte,Nat.reduceEqDiff,reduceCtorEq,Nat.reduceLT,Nat.reduceBEq,Nat.reduceAdd,n20,n14,e20,e14,h19,c1,hK9,hV,hR2,Ly,Lz,e21,Av,yD,FH,c0,ck,hy];with_reducible refine And.intro ?_ hZ;first|exact rfl|decide):p:=e
theorem eW {p:Prop}(e:p:=by simp -implicitDefEqProofs (disch:=first|omega| (simp only[go_sem,lA,lD,lT,hwl,hVl,hLl,uY] <;>omega) |decide) only[go_sem,↓reduceIte,Nat.reduceEqDiff,reduceCtorEq];all_goals (rw[hS])):p:=e
theorem Zm {gl:Nat→C}{M0:Nat}{pu:Nat→List C→Option C}{hp:Nat→List C→Hp→Option (C×Hp)}(hcx:CxOK (cJ gl M0 pu hp))(w:ah)(how y:Int)(v b:Nat)(hw:WG w)(hho: -9223372036854775808≤how∧how≤9223372036854775807)(hy0: -9223372036854775808≤y∧y≤9223372036854775807)(hv:v=ag y w.length)(hb:b=ag (y.tdiv ((2:Nat):Int)) (max (gt w v).length 1))(hA:¬ (0< (cm w).length∧ag how 2=0))(n20:∀xs:List C,pu 20 xs=none)(n14:∀xs:List C,pu 14 xs=none)(hq20:∀pre:Hp,OkH pre→hp 20 [.agg [sl vC .no w]] pre=some (.agg [.gv pre.length w.length (1,46)],pre++[some (fV pre.length v (gt w v).length w),some (fA pre.length b (gt (gt w v) b).2.length (gt w v)),some (cl pC (gt (gt w v) b).2),some [.gv pre.length w.length (1,46)]]))(hq14:∀suf:Hp,OkH suf→hp 14 [.agg [.gv 0 w.length (1,46)]] ([some (fV 0 v (gt w v).length w),some (fA 0 b (gt (gt w v) b).2.length (gt w v)),some (cl pC (gt (gt w v) b).2)]++suf) =some (sl pC (.own 7) (cm w),[some (fV 0 v (gt w v).length w),some (fA 0 b (gt (gt w v) b).2.length (gt w v)),some (cl pC (gt (gt w v) b).2)]++suf))(h19:∀ (n:Int) (m:Nat),-9223372036854775808≤n∧n≤9223372036854775807∧0< m∧m≤9223372036854775807→pu 19 [.val (.int .i64 n),.val (nI m)] =some (.val (nI (ag n m))))(h21:∀ (l:List Int) (k:Nat) (id:ID),LI l→k≤900→pu 21 [sl iC .no l,.val (nI k),.agg (iD id)] =some (.agg (pC (eI l k id)))):FC Tryd.prog gl 51 [.agg [sl vC .no w],.val (.int .i64 how),.val (.int .i64 y)] [] (.agg [sl vC .no (cR w how y)]) []:=by
 replace hcx:=hcx.reN (M:=242);refine aH (cx:=cJ gl 242 pu hp) (rs:=[.cell 6 29]) rfl Tryd.func51 rfl rfl rfl (by simp only[List.length_cons,List.length_nil];decide) (by simp only[go_sem]) ?_;simp only[bj,go_sem];have ⟨c0,ck,hy⟩:=ia;have bM:= @gY;have hwl:=hw.n;have hal:=hw.al;have e20:=hq20 [some [sl vC .no w],some [.val (.slice none 0 0)],none] (OkH.cons rfl (OkH.cons rfl (OkH.cons rfl OkH.nil)));simp only[List.length_cons,List.length_nil,List.cons_append,List.nil_append,Nat.zero_add,Nat.reduceAdd] at e20;have e14:=hq14 [some [.val (.slice none 0 0)],some [.gv 0 w.length (1,46)]] (OkH.cons rfl (OkH.cons rfl OkH.nil));simp only[List.cons_append,List.nil_append] at e14;have ⟨c1,hV,hVl,hvl,hbl,hLl,hR2,hK9,hk9⟩:=aca;have hy2:=iK y 2 hy0;have hy4:=iK y 4 hy0;have hy8:=iK y 8 hy0;have hh2:=iK how 2 hho;have hA10:=bv y (m:=10) (by decide);have hA66:=bv y (m:=66) (by decide);have hA12:=bv y (m:=12) (by decide);have hA4:=bv (y.tdiv ((4:Nat):Int)) (m:=4) (by decide);have hA3:=bv (y.tdiv ((4:Nat):Int)) (m:=3) (by decide);have hA9:=bv y (m:=9) (by decide);have e21:pu 21 [sl iC .no [y,y.tdiv ((8:Nat):Int)],.val (nI 0),.agg [.val (nI 0),.val (nI (ag y 12)),.val (nI 0)]] =some (.agg (pC (eI [y,y.tdiv ((8:Nat):Int)] 0 (((0:Nat):Int),((ag y 12:Nat):Int),((0:Nat):Int))))):=h21 [y,y.tdiv ((8:Nat):Int)] 0 (((0:Nat):Int),((ag y 12:Nat):Int),((0:Nat):Int)) (VN y _ hy0 hy8) (by decide);refine Tr.w hcx [] _ [none,none] rfl rfl rfl ?_ bH;refine Tr.w hcx [] _ [none] rfl rfl rfl ?_ bH;refine Tr.k [1,2,6,7] ?_;refine aW hcx [3,4,5,1,2] ?_;simp only[yB (ρ:=[3,4,5,1,2]) (n:=3) (k:=0) (fun _=>rfl),Fx (ρ:=[3,4,5,1,2]) (n:=3) (k:=0) (fun _=>rfl)];refine Tr.w hcx [1000018] _ [] rfl rfl rfl ?_ bH;refine qL (α:=Unit) (fun a=>[(1,?v1_1),(2,?v2_1),(6,?v6_1),(7,?v7_1)]) (fun a=>[some (fV 0 v (gt w v).length w),some (fA 0 b (gt (gt w v) b).2.length (gt w v)),some (cl pC (gt (gt w v) b).2),some [.val (.slice none 0 0)],some [.gv 0 w.length (1,46)]]) (fun a=>True) ?ja_1 ?jb_1
 case ja_1=>
  by_cases c0:0< (cm w).length
  ·
   have c1:=eq_false (fun h=>hA ⟨c0,h⟩);refine Tr.w hcx [] [some 19,some 20,some 21,some 22,some 23,some 24,some 25,some 26] [] rfl rfl rfl ?_ bH;refine aq rfl ?_;refine Tr.skip ?_;exact ⟨(),tI,LT,rfl⟩
  skip;refine Tr.w hcx [] [some 19,some 20,some 21,some 22,some 23,some 24,some 25,some 26] [] rfl rfl rfl ?_ bH;refine aq rfl ?_;refine Tr.skip ?_;exact ⟨(),tI,LT,rfl⟩
 rintro a ha;refine aa fun K1 hK1=>?_;refine Tr.w hcx [] _ [] rfl rfl rfl ?_ bH;refine af rfl (fun hc50=>?_) (fun hc50=>?_)
 ·
  have hS:cR w how y=List.replicate (ag y 10) []:=by unfold cR;rw[if_neg hA,if_pos hc50]
  refine s8 hcx [53] [] _ [none] rfl rfl rfl ?_ bH;have hq:cR w how y=List.replicate (ag y 10) []:=hS;refine xT 5 (cl zV (gj (ag y 10))) (cl vC (List.replicate (ag y 10) [])) (by simp only[go_sem]) (FB _).1 (FB _).2 ?_;refine aL hcx 5 (cl vC (List.replicate (ag y 10) [])) ?_;rw[gi _ _ (List.length_replicate ..).symm]
  exact Tr.ret eW
 have hvl:=bv y (m:=w.length) (by omega);rw[←hv] at hvl;have hwv:=hw.v _ (bc w v hvl);have hVl: (gt w v).length≤100000:=hwv.1;have hV:=And.intro hv.symm (And.intro hb.symm (qw (n:=0) (m:=(gt w v).length) hvl));refine Tr.skip ?_;refine hK1 _ ?_;refine Tr.w hcx [1000059] _ [] rfl rfl rfl ?_ bH;refine Tr.w hcx [1000070] _ [] rfl rfl rfl ?_ bH;refine Tr.k [1,2,6,7,11,12] ?_;refine aa fun K2 hK2=>?_;refine Tr.w hcx [] _ [] rfl rfl rfl ?_ bH;refine af rfl (fun hc79=>?_) (fun hc79=>?_)
 ·
  have hS:cR w how y=w.set v (List.replicate (ag y 66) ([],[])):=by unfold cR;rw[←hv,←hb,if_neg hA,if_neg hc50,if_pos (by omega)]
  refine EF hcx bM [85] [] _ [none] rfl rfl rfl rfl ?_ i7;refine Tr.w hcx [] _ [] rfl rfl rfl ?_ bH;have hq:cR w how y=w.set v (List.replicate (ag y 66) ([],[])):=hS;refine xT 5 (cl zA (gj (ag y 66))) (cl aC (List.replicate (ag y 66) ([],[]))) (by simp only[go_sem]) (FD _).1 (FD _).2 ?_;refine aL hcx 5 (cl aC (List.replicate (ag y 66) ([],[]))) ?_;rw[yC _ _ (List.length_replicate ..).symm,oo];refine aL hcx 0 (cl vC (w.set v (List.replicate (ag y 66) ([],[])))) ?_;rw[gi _ _ (List.length_set ..).symm]
  exact Tr.ret eW
 have hS0:cR w how y=Fw w v b y (ag (how.tdiv ((2:Nat):Int)) 8):=by unfold cR;rw[←hv,←hb,if_neg hA,if_neg hc50,if_neg (by omega)]
 obtain ⟨V,hVV⟩:∃V,gt w v=V:=⟨_,rfl⟩;rw[hVV] at hVl hwv hV;have hbl:b< V.length:=by rw[←hVV];omega
 rw[hVV];obtain ⟨L,hLL⟩:∃L,(gt V b).2=L:=⟨_,rfl⟩;have hwa:=hwv.2 _ (bc _ b hbl);have hLl:=hwa.2.1;rw[hLL] at hLl;rw[hLL];have hVs:V.set b ((gt V b).1,L) =V:=by rw[←hLL];exact FE V b
 have hws:w.set v V=w:=by rw[←hVV];exact FE w v
 have hV:=And.intro hV (And.intro (vQ (n:=0) (m:=L.length) hbl) (Fv (n:=0) (m:=V.length) hvl));refine Tr.skip ?_;refine hK2 _ ?_;refine Tr.w hcx [1000098] _ [] rfl rfl rfl ?_ bH;refine Tr.k [1,2,6,7,11,12,13] ?_;refine aa fun K3 hK3=>?_;refine Tr.w hcx [] _ [] rfl rfl rfl ?_ bH;refine Tr.blk ?_;refine Tr.w hcx [1000125] _ [] rfl rfl rfl ?_ bH;refine af rfl (fun hc124=>?_) (fun hc124=>?_)
 ·
  by_cases ck:ag y 9=0
  ·
   have hK9:=ck;have hS:cR w how y=w++List.replicate 0 []:=by rw[hS0,hc124];show w++List.replicate (ag y 9) [] =_;rw[ck]
   refine aL hcx 2 (cl pC L) ?_;simp only[hVs,j5 L _ rfl];refine aL hcx 1 (cl aC V) ?_;simp only[hws];refine ta hcx bM [130] [127] _ [] rfl rfl rfl rfl ?_ i7;refine hK3 _ ?_;refine Tr.w hcx [] _ [] rfl rfl rfl ?_ bH;have hq:cR w how y=w++List.replicate 0 []:=hS;have hS:cR w how y=w:=hS.trans (List.append_nil w);refine aL hcx 0 (cl vC w) ?_;rw[gi _ _ rfl]
   exact Tr.ret eW
  have hk9:0< ag y 9:=by omega
  have hS:cR w how y=w++List.replicate (ag y 9) []:=by rw[hS0,hc124];rfl
  refine aL hcx 2 (cl pC L) ?_;simp only[hVs,j5 L _ rfl];refine aL hcx 1 (cl aC V) ?_;simp only[hws];refine ta hcx bM [130] [127] _ [] rfl rfl rfl rfl ?_ i7;refine hK3 _ ?_;refine Tr.w hcx [] _ [] rfl rfl rfl ?_ bH;have hq:cR w how y=w++List.replicate (ag y 9) []:=hS;refine xT 5 (cl vC w++cl zV (gj (ag y 9))) (cl vC (w++List.replicate (ag y 9) [])) (by simp only[go_sem]) (Cg _ _).1 (Cg _ _).2 ?_;refine aL hcx 5 (cl vC (w++List.replicate (ag y 9) [])) ?_;rw[gi _ _ (by rw[List.length_append,List.length_replicate])]
  exact Tr.ret eW
 refine Tr.w hcx [1000133] _ [] rfl rfl rfl ?_ bH;refine af rfl (fun hc132=>?_) (fun hc132=>?_)
 ·
  have hS:cR w how y=w.set v (V.set b (gt tit4 (ag (y.tdiv ((4:Nat):Int)) 4),(gt V b).2)):=by rw[hS0,hc132];(try simp only[←hLL,←hVV]) <;>rfl
  refine aL hcx 2 (cl pC L) ?_;simp only[hVs,j5 L _ rfl];refine fS hcx bM [] _ [] rfl rfl rfl rfl ?_ i7;refine hK3 _ ?_;refine Tr.k [6,7] ?_;refine Tr.w hcx [] _ [] rfl rfl rfl ?_ bH;have hq:cR w how y=w.set v (V.set b (gt tit4 (ag (y.tdiv ((4:Nat):Int)) 4),(gt V b).2)):=hS;refine aL hcx 1 (cl aC (V.set b (gt tit4 (ag (y.tdiv ((4:Nat):Int)) 4),(gt V b).2))) ?_;refine aL hcx 0 (cl vC (w.set v (V.set b (gt tit4 (ag (y.tdiv ((4:Nat):Int)) 4),(gt V b).2)))) ?_;rw[gi _ _ (List.length_set ..).symm]
  exact Tr.ret eW
 refine Tr.w hcx [1000150] _ [] rfl rfl rfl ?_ bH;refine af rfl (fun hc149=>?_) (fun hc149=>?_)
 ·
  have hS:cR w how y=w.set v (V++[gt V b]):=by rw[hS0,hc149];(try simp only[←hLL,←hVV]) <;>rfl
  refine aL hcx 2 (cl pC L) ?_;simp only[hVs,j5 L _ rfl];refine aL hcx 4 [.gv 0 w.length (1,46)] ?_;refine ta hcx bM [170] [159] _ [] rfl rfl rfl rfl ?_ i7;refine hK3 _ ?_;refine Tr.k [6,7] ?_;refine Tr.w hcx [] _ [] rfl rfl rfl ?_ bH;have hq:cR w how y=w.set v (V++[gt V b]):=hS;refine aL hcx 5 (cl aC (V++[gt V b])) ?_;rw[yC _ _ rfl,oo];refine aL hcx 0 (cl vC (w.set v (V++[gt V b]))) ?_;rw[gi _ _ (List.length_set ..).symm]
  exact Tr.ret eW
 refine Tr.w hcx [1000174] _ [] rfl rfl rfl ?_ bH;refine af rfl (fun hc173=>?_) (fun hc173=>?_)
 ·
  refine Tr.w hcx [] _ [] rfl rfl rfl ?_ bH;refine af rfl (fun hc177=>?_) (fun hc177=>?_)
  ·
   have hS:cR w how y=w.set v (V.set b ((gt V b).1,L.drop 1)):=by rw[hS0,hc173,←hLL,←hVV];rw[←hLL,←hVV] at hc177;exact if_pos hc177
   refine aL hcx 2 (cl pC L) ?_;simp only[hVs,j5 L _ rfl];refine fS hcx bM [] _ [] rfl rfl rfl rfl ?_ i7;refine hK3 _ ?_;refine Tr.k [6,7] ?_;refine Tr.w hcx [] _ [] rfl rfl rfl ?_ bH;have hq:cR w how y=w.set v (V.set b ((gt V b).1,L.drop 1)):=hS;refine aL hcx 1 (cl aC (V.set b ((gt V b).1,L.drop 1))) ?_;refine aL hcx 0 (cl vC (w.set v (V.set b ((gt V b).1,L.drop 1)))) ?_;rw[gi _ _ (List.length_set ..).symm]
   exact Tr.ret eW
  have hS:cR w how y=w:=by rw[hS0,hc173];rw[←hLL,←hVV] at hc177;exact if_neg hc177
  refine Tr.skip ?_;refine hK3 _ ?_;refine Tr.w hcx [] _ [] rfl rfl rfl ?_ bH;have hq:cR w how y=w:=hS;refine aL hcx 2 (cl pC L) ?_;simp only[hVs];refine aL hcx 1 (cl aC V) ?_;simp only[hws];refine aL hcx 0 (cl vC w) ?_;rw[gi _ _ rfl]
  exact Tr.ret eW
 refine Tr.w hcx [1000190] _ [] rfl rfl rfl ?_ bH;refine af rfl (fun hc189=>?_) (fun hc189=>?_)
 ·
  refine Tr.w hcx [] _ [] rfl rfl rfl ?_ bH;refine af rfl (fun hc193=>?_) (fun hc193=>?_)
  ·
   have hS:cR w how y=w.set v (V.set b ((gt V b).1,(L.set 0 (gt L (L.length - 1))).set (L.length - 1) (gt L 0))):=by rw[hS0,hc189,←hLL,←hVV];rw[←hLL,←hVV] at hc193;exact if_pos hc193
   refine fS hcx bM [] _ [] rfl rfl rfl rfl ?_ i7;refine hK3 _ ?_;refine Tr.k [6,7] ?_;refine Tr.w hcx [] _ [] rfl rfl rfl ?_ bH;have hq:cR w how y=w.set v (V.set b ((gt V b).1,((L.set 0 (gt L (L.length - 1))).set (L.length - 1) (gt L 0)))):=hS;refine aL hcx 2 (cl pC ((L.set 0 (gt L (L.length - 1))).set (L.length - 1) (gt L 0))) ?_;refine aL hcx 1 (cl aC (V.set b ((gt V b).1,((L.set 0 (gt L (L.length - 1))).set (L.length - 1) (gt L 0))))) ?_;refine aL hcx 0 (cl vC (w.set v (V.set b ((gt V b).1,((L.set 0 (gt L (L.length - 1))).set (L.length - 1) (gt L 0)))))) ?_;rw[gi _ _ (List.length_set ..).symm]
   exact Tr.ret eW
  have hS:cR w how y=w:=by rw[hS0,hc189];rw[←hLL,←hVV] at hc193;exact if_neg hc193
  refine Tr.skip ?_;refine hK3 _ ?_;refine Tr.w hcx [] _ [] rfl rfl rfl ?_ bH;have hq:cR w how y=w:=hS;refine aL hcx 2 (cl pC L) ?_;simp only[hVs];refine aL hcx 1 (cl aC V) ?_;simp only[hws];refine aL hcx 0 (cl vC w) ?_;rw[gi _ _ rfl]
  exact Tr.ret eW
 refine Tr.w hcx [1000211] _ [] rfl rfl rfl ?_ bH;refine af rfl (fun hc210=>?_) (fun hc210=>?_)
 ·
  have hS:cR w how y=w.set v (V++List.replicate (62+ag (y.tdiv ((4:Nat):Int)) 3) ([120],[])):=by rw[hS0,hc210];(try simp only[←hLL,←hVV]) <;>rfl
  refine aL hcx 2 (cl pC L) ?_;simp only[hVs,j5 L _ rfl];refine aL hcx 4 [.gv 0 w.length (1,46)] ?_;refine Tr.w hcx [] _ [] rfl rfl rfl ?_ bH;refine Tr.k [2,6,7,11,14] ?_;refine Tr.blk ?_;refine Tr.k [2,6,7,11,14] ?_;refine aW hcx [0,1,3] ?_;simp only[yB (ρ:=[0,1,3]) (n:=0) (k:=0) (fun _=>rfl),c9];rw[show cl aC V=cl aC (V++List.replicate 0 ([120],[])) from by rw[List.replicate_zero,List.append_nil]];refine ao (α:=Nat) (fun a=>[(2,?v2_2),(6,?v6_2),(7,?v7_2),(11,?v11_2),(14,.val (nI a))]) (fun a=>[some (fV 0 v (V.length+a) w),some (cl aC (V++List.replicate a ([120],[]))),some [.val (.slice none 0 0)]]) (fun a=>a≤62+ag (y.tdiv ((4:Nat):Int)) 3) (fun a=>62+ag (y.tdiv ((4:Nat):Int)) 3 - a) (0) (Nat.zero_le _) ?le_2 ?hh_2 ?bd_2
  case hh_2=>exact rfl
  case le_2=>exact LT
  rintro i hi;refine aa fun K4 hK4=>?_;refine Tr.w hcx [] _ [] rfl rfl rfl ?_ bH;refine af rfl (fun hc217=>?_) (fun hc217=>?_)
  ·
   have hR2:=qw (n:=0) (m:=V.length+i) hvl;have hVi: (V++List.replicate i (([120],[]):dG)).length=V.length+i:=by rw[List.length_append,List.length_replicate]
   refine Tr.skip ?_;refine hK4 _ ?_;refine aa fun K5 hK5=>?_;refine Tr.blk ?_;refine ta hcx bM [231] [228] _ [] rfl rfl rfl rfl ?_ i7;refine hK5 _ ?_;refine Tr.k [2,6,7,11,14] ?_;rw[show (V.length+i) = (V++List.replicate i (([120],[]):dG)).length from hVi.symm];refine Tr.bxc 3 ((V++List.replicate i (([120],[]):dG)).length*2+1) (sl pC .no []) (cl aC (V++List.replicate i (([120],[]):dG))++[.val (str [120]),.val (.slice none 0 0)]) (by simp only[go_sem]) (Pz ..) (CLe.nil _) rfl ?_;rw[PA,FI,hVi];simp only[List.set_cons_succ,List.set_cons_zero];refine Tr.k [2,6,7,11,14] ?_;refine aW hcx [0,3,2] ?_;simp only[kC,c9,Zl];refine Tr.v hcx [1000219] _ [] rfl rfl rfl ?_ bH;exact ⟨i+1,⟨(by omega),O1⟩,LT,rfl⟩
  obtain rfl:i=62+ag (y.tdiv ((4:Nat):Int)) 3:=by omega
  refine Tr.exit ?_;refine hK3 _ ?_;refine Tr.w hcx [] _ [] rfl rfl rfl ?_ bH;have hq:cR w how y=w.set v (V++List.replicate (62+ag (y.tdiv ((4:Nat):Int)) 3) ([120],[])):=hS;refine aL hcx 1 (cl aC (V++List.replicate (62+ag (y.tdiv ((4:Nat):Int)) 3) ([120],[]))) ?_;rw[Lx (by rw[List.length_append,List.length_replicate])];refine aL hcx 0 (cl vC (w.set v (V++List.replicate (62+ag (y.tdiv ((4:Nat):Int)) 3) ([120],[])))) ?_;rw[gi _ _ (List.length_set ..).symm]
  exact Tr.ret eW
 refine Tr.w hcx [1000235] _ [] rfl rfl rfl ?_ bH;refine af rfl (fun hc234=>?_) (fun hc234=>?_)
 ·
  have hS:cR w how y=w.set v []:=by rw[hS0,hc234];(try simp only[←hLL,←hVV]) <;>rfl
  refine aL hcx 2 (cl pC L) ?_;simp only[hVs,j5 L _ rfl];refine aL hcx 1 (cl aC V) ?_;simp only[hws];refine Tr.v hcx [] _ [] rfl rfl rfl ?_ bH;refine hK3 _ ?_;refine Tr.k [6,7] ?_;refine Tr.w hcx [] _ [] rfl rfl rfl ?_ bH;have hq:cR w how y=w.set v []:=hS;refine Tr.bxc 0 v (sl aC .no []) ((cl vC w).set v (.val (.slice none 0 0))) (by simp only[go_sem]) (List.getElem?_set_self (by rw[aD (f:=vC)];omega)) (CLe.nil _) rfl ?_;rw[List.set_set,oo];simp only[List.set_cons_succ,List.set_cons_zero];refine aL hcx 0 (cl vC (w.set v [])) ?_;rw[gi _ _ (List.length_set ..).symm]
  exact Tr.ret eW
 have hS:cR w how y=w.set v (V.set b ((gt V b).1,L++[eI [y,y.tdiv ((8:Nat):Int)] 0 (((0:Nat):Int),((ag y 12:Nat):Int),((0:Nat):Int))])):=by rw[hS0,Zj hc124 hc132 hc149 hc173 hc189 hc210 hc234,←hLL,←hVV] <;>rfl
 refine aL hcx 2 (cl pC L) ?_;simp only[hVs,j5 L _ rfl];refine fS hcx bM [109,111] _ [] rfl rfl rfl rfl ?_ i7;refine hK3 _ ?_;refine Tr.k [6,7] ?_;refine Tr.w hcx [] _ [] rfl rfl rfl ?_ bH;have hq:cR w how y=w.set v (V.set b ((gt V b).1,(L++[eI [y,y.tdiv ((8:Nat):Int)] 0 (((0:Nat):Int),((ag y 12:Nat):Int),((0:Nat):Int))]))):=hS;refine Tr.bxc 1 (b*2+1) (sl pC .no (L++[eI [y,y.tdiv ((8:Nat):Int)] 0 (((0:Nat):Int),((ag y 12:Nat):Int),((0:Nat):Int))])) ((cl aC V).set (b*2+1) (sl pC (.own 7) (L++[eI [y,y.tdiv ((8:Nat):Int)] 0 (((0:Nat):Int),((ag y 12:Nat):Int),((0:Nat):Int))]))) (by simp only[go_sem]) (List.getElem?_set_self (by rw[aD (f:=aC)];omega)) (CLe.noR (sl pC (.own 7) _)) rfl ?_;rw[List.set_set,om];simp only[List.set_cons_succ,List.set_cons_zero];refine aL hcx 1 (cl aC (V.set b ((gt V b).1,(L++[eI [y,y.tdiv ((8:Nat):Int)] 0 (((0:Nat):Int),((ag y 12:Nat):Int),((0:Nat):Int))])))) ?_;refine aL hcx 0 (cl vC (w.set v (V.set b ((gt V b).1,(L++[eI [y,y.tdiv ((8:Nat):Int)] 0 (((0:Nat):Int),((ag y 12:Nat):Int),((0:Nat):Int))]))))) ?_;rw[gi _ _ (List.length_set ..).symm]
 exact Tr.ret eW
theorem u2 {w:ah}{k:Nat}(h:k< (cm w).length):∃v a j,dj w (gt (cm w) k).1= ((v,a,j),true)∧v< w.length∧a< (gt w v).length∧j< (gt (gt w v) a).2.length:=by
 rw[gU] at h;have hm:gt (bm w) k∈bm w:=bc _ _ h;rw[qx w k h];unfold dj
 cases hf: (bm w).find? (fun r=>decide (r.2.1= (gt (bm w) k).2.1)) with
 |none=>
  have:=List.find?_eq_none.1 hf _ hm;simp at this
 |some r=>
  have hr:=List.mem_of_find?_eq_some hf;unfold bm at hr;rw[List.mem_flatMap] at hr;obtain ⟨v,hv,hr⟩:=hr;unfold ym at hr;rw[List.mem_flatMap] at hr;obtain ⟨a,ha,hr⟩:=hr;unfold nf at hr;rw[List.mem_map] at hr;obtain ⟨j,hj,rfl⟩:=hr;exact ⟨v,a,j,rfl,List.mem_range.1 hv,List.mem_range.1 ha,List.mem_range.1 hj⟩
theorem u4 (r:Nat→Nat)(x:C):∀ (l:List C)(i:Nat),bkCs r (l.set i x) = (bkCs r l).set i (bZ r x)
 | [],_=>by simp only[List.set_nil,bkCs]
 |y::l,0=>by simp only[List.set_cons_zero,bkCs]
 |y::l,i+1=>by simp only[List.set_cons_succ,bkCs,u4 r x l i]
theorem Zs (n v m:Nat)(w:ah):bkCs (n+ ·) (fV 0 v m w) =fV n v m w:=by unfold fV;rw[u4,xO];rfl
theorem Zt (n a m:Nat)(V:bE):bkCs (n+ ·) (fA 0 a m V) =fA n a m V:=by unfold fA;rw[u4,xO];rfl
def FM (w:ah)(v a:Nat):Hp:=[some (fV 0 v (gt w v).length w),some (fA 0 a (gt (gt w v) a).2.length (gt w v)),some (cl pC (gt (gt w v) a).2)]
section
variable {gl:Nat→C} {pu:Nat→List C→Option C}
noncomputable def tO (pu:Nat→List C→Option C):Nat→List C→Option C:=fun f xs=>if (f=19∨f=21∨f=33)∧noRefs 0 xs=true then pu f xs else none
theorem Wg {M:Nat}(hcx:CxOK (ax gl M pu)):CxOK (ax gl M (tO pu)):=by
 refine ⟨hcx.glo,fun f xs c hc h=>?_,(fun _ _ _ _ _ h=>by cases h),hcx.km⟩;have hc:tO pu f xs=some c:=hc;unfold tO at hc;split at hc
 . exact hcx.pu f xs c hc h
 . cases hc
theorem nE (k:Nat)(x:C)(hx:ae k x=false):∀ (l:List C)(i:Nat),i< l.length→noRefs k (l.set i x) =false
 |y::l,0,_=>by simp only[List.set_cons_zero,noRefs,hx,Bool.false_and]
 |y::l,i+1,h=>by simp only[List.set_cons_succ,noRefs,nE k x hx l i (by simpa using h),Bool.and_false]
theorem Wh {w:ah}{v a:Nat}(hv:v< w.length)(ha:a< (gt w v).length)(k:Nat)(xs:List C):noRefs 0 (.agg [xF w v a k]::xs) =false:=by
 have h1:noRefs 0 (xA (gt w v) a k) =false:=nE 0 (.gv 0 k (7,37)) rfl _ _ (by rw[aD (f:=aC)];omega);have h2:noRefs 0 (xV w v a k) =false:=nE 0 (.sl .no (gt w v).length (xA (gt w v) a k)) h1 _ _ (by rw[aD (f:=vC)];omega);show ((noRefs 0 (xV w v a k) && true) && noRefs 0 xs) =false;rw[h2];rfl
theorem Wi {w:ah}{v a:Nat}(hv:v< w.length)(ha:a< (gt w v).length)(xs:List C)(k:Nat):tO pu 33 (.agg [xF w v a k]::xs) =none:=if_neg fun e=>by rw[Wh hv ha] at e;exact Bool.false_ne_true e.2
theorem Kh (f:Nat)(h:¬ (f=19∨f=21∨f=33))(xs:List C):tO pu f xs=none:=if_neg fun e=>h e.1
theorem u5 {f:Nat}{xs:List C}(h:f=19∨f=21∨f=33)(hn:noRefs 0 xs=true):tO pu f xs=pu f xs:=if_pos ⟨h,hn⟩
noncomputable def yL {M:Nat}(hcx:CxOK (ax gl M pu))(w:ah)(v a:Nat)(hw:WG w):Mk Tryd.prog gl 20 Unit where
 args _:=[.agg [sl vC .no w]]
 r _:= .agg [.gv 0 w.length (1,46)]
 Y _:=FM w v a++[some [.gv 0 w.length (1,46)]]
 nr _:=by simp only[noRefs,ae,bf,Bool.and_self]
 inj _ _ _:=⟨rfl,rfl⟩
 fc _:=Ze hcx w v a hw
theorem vS {M:Nat}(hcx:CxOK (ax gl M pu))(w:ah)(v a:Nat)(hw:WG w)(hp:Nat→List C→Hp→Option (C×Hp)):∀pre:Hp,OkH pre→(yL hcx w v a hw).tab hp 20 [.agg [sl vC .no w]] pre=some (.agg [.gv pre.length w.length (1,46)],pre++[some (fV pre.length v (gt w v).length w),some (fA pre.length a (gt (gt w v) a).2.length (gt w v)),some (cl pC (gt (gt w v) a).2),some [.gv pre.length w.length (1,46)]]):=fun pre h=>by
 have e:=(yL hcx w v a hw).look hp () pre h;have e1:dS pre.length ((yL hcx w v a hw).Y ()) = [some (fV pre.length v (gt w v).length w),some (fA pre.length a (gt (gt w v) a).2.length (gt w v)),some (cl pC (gt (gt w v) a).2),some [.gv pre.length w.length (1,46)]]:=by
  show [some (bkCs _ (fV 0 v (gt w v).length w)),some (bkCs _ (fA 0 a (gt (gt w v) a).2.length (gt w v))),some (bkCs _ (cl pC (gt (gt w v) a).2)),some [C.gv (pre.length+0) w.length (1,46)]] =_;rw[Zs,Zt,xO];rfl
 rw[e1] at e;exact e
theorem Zu (w:ah)(v a:Nat):∀o∈FM w v a,((aR o).isSome|| (eK o).isSome) =true:=by
 intro o ho;simp only[FM,List.mem_cons,List.not_mem_nil,or_false] at ho;rcases ho with rfl|rfl|rfl
 . rw[Aq];rfl
 . rw[Ar];rfl
 . rw[iQ];rfl
theorem Wj {M N:Nat}{hp:Nat→List C→Hp→Option (C×Hp)}(hcx:CxOK (ax gl N pu))(hc:CxOK (cJ gl N pu hp))(w:ah)(v a:Nat)(hw:WG w):CxOK (cJ gl M pu (hpS hp 14 [.agg [.gv 0 w.length (1,46)]] (FM w v a) (sl pC (.own 7) (cm w),FM w v a))):=
 ql hc (Zh hcx w v a hw) rfl (Zu w v a) rfl (uW _ _ _ 3 (by decide)) (bf pC 3 (.own 7) (cm w)) (uW _ _ _ 3 (by decide))
theorem Wk {M N:Nat}{hp:Nat→List C→Hp→Option (C×Hp)}(hcx:CxOK (ax gl N pu))(hc:CxOK (cJ gl N pu hp))(w:ah)(v a:Nat)(hw:WG w):CxOK (cJ gl M pu ((yL hcx w v a hw).tab hp)):=xS hc (yL hcx w v a hw)
theorem Ki {M:Nat}(hcx:CxOK (ax gl M pu)):CxOK (cJ gl M pu (fun _ _ _=>none)):=qp hcx
theorem ada {M:Nat}(hcx:CxOK (ax gl M pu))
 (h19:∀ (n:Int)(m:Nat),-9223372036854775808≤n∧n≤9223372036854775807∧0< m∧m≤9223372036854775807→pu 19 [.val (.int .i64 n),.val (nI m)] =some (.val (nI (ag n m))))
 (h21:∀ (l:List Int)(k:Nat)(id:ID),LI l→k≤900→pu 21 [sl iC .no l,.val (nI k),.agg (iD id)] =some (.agg (pC (eI l k id))))
 (h33:∀ (w:ah)(id:ID),WB w→pu 33 [.agg [sl vC .no w],.agg (iD id)] =some (.tup [.agg [.val (nI (dj w id).1.1),.val (nI (dj w id).1.2.1),.val (nI (dj w id).1.2.2)],.val (.bool (dj w id).2)]))
 (w:ah) (how y:Int) (hw:WG w) (hho: -9223372036854775808≤how∧how≤9223372036854775807) (hy0: -9223372036854775808≤y∧y≤9223372036854775807):
 FC Tryd.prog gl 51 [.agg [sl vC .no w],.val (.int .i64 how),.val (.int .i64 y)] [] (.agg [sl vC .no (cR w how y)]) []:=by
 have hcS:=Wg hcx;have n0:=fun f h xs=>Kh (pu:=pu) f h xs;have h19':∀ (n:Int)(m:Nat),-9223372036854775808≤n∧n≤9223372036854775807∧0< m∧m≤9223372036854775807→tO pu 19 [.val (.int .i64 n),.val (nI m)] =some (.val (nI (ag n m))):=fun n m h=>(u5 (.inl rfl) rfl).trans (h19 n m h);have h21':∀ (l:List Int)(k:Nat)(id:ID),LI l→k≤900→tO pu 21 [sl iC .no l,.val (nI k),.agg (iD id)] =some (.agg (pC (eI l k id))):=fun l k id h1 h2=>(u5 (.inr (.inl rfl)) (by simp only[noRefs,bf,Bool.true_and];rfl)).trans (h21 l k id h1 h2);have h33':∀ (w:ah)(id:ID),WB w→tO pu 33 [.agg [sl vC .no w],.agg (iD id)] =some (.tup [.agg [.val (nI (dj w id).1.1),.val (nI (dj w id).1.2.1),.val (nI (dj w id).1.2.2)],.val (.bool (dj w id).2)]):=fun w id h=>(u5 (.inr (.inr rfl)) (by
  show (noRefs 0 [sl vC .no w] && (noRefs 0 (iD id) && true)) =true;have e:noRefs 0 [sl vC .no w] =true:=by simp only[noRefs,bf,Bool.and_self]
  rw[e];rfl)).trans (h33 w id h)
 by_cases hA:0< (cm w).length∧ag how 2=0
 . obtain ⟨v,a,j,hf,hv,ha,hj⟩:=u2 (bv y hA.1)
   have hx1:∀o∈ [some (cl pC (gt (gt w v) a).2)],((aR o).isSome|| (eK o).isSome) =true:=fun o ho=>by
    obtain rfl:=List.mem_singleton.1 ho;rw[iQ];rfl
   have hna:∀xs:List C,noRefs 1 xs=true→noRefs 1 (.agg [xF w v a (gt (gt w v) a).2.length]::xs) =true:=fun xs h=>by
    show (ae 1 (.agg [xF w v a (gt (gt w v) a).2.length]) && noRefs 1 xs) =true;rw[Ch,h];rfl
   have k35:=ql (M:=120) (az:=[.agg [xF w v a (gt (gt w v) a).2.length],.agg [.val (nI v),.val (nI a),.val (nI j)]]) (X:=[some (cl pC (gt (gt w v) a).2)]) (r:=(.tup [.agg (pC (gt (gt (gt w v) a).2 j)),.val (.bool true)],[some (cl pC (gt (gt w v) a).2)])) (Ki (M:=M) hcS) (Zn hcS w v a j hv ha hj hw) rfl hx1 (hna _ rfl) (lP _ 1) (by
    show (noRefs 1 (pC (gt (gt (gt w v) a).2 j)) && (true && true)) =true;rw[eH];rfl) (lP _ 1)
   have f92:=Zo k35 w v a j (how.tdiv ((2:Nat):Int)) (y.tdiv ((8:Nat):Int)) hv ha hj hw (iK how 2 hho) (iK y 8 hy0) (n0 35 (by decide)) (fun suf hs=>n8 _ _ _ _ _ suf hs) h19';have k92:=ql (M:=M) (az:=[.agg [xF w v a (gt (gt w v) a).2.length],.agg [.val (nI v),.val (nI a),.val (nI j)],.val (.int .i64 (how.tdiv ((2:Nat):Int))),.val (.int .i64 (y.tdiv ((8:Nat):Int)))]) (X:=[some (cl pC (gt (gt w v) a).2)]) (r:=(.agg [xF w v a (gt (gt w v) a).2.length],[some (cl pC ((gt (gt w v) a).2.set j (dT (gt (gt (gt w v) a).2 j) (how.tdiv ((2:Nat):Int)) (y.tdiv ((8:Nat):Int)))))])) (Ki (M:=M) hcS) f92 rfl hx1 (hna _ rfl) (lP _ 1) (Ch ..) (lP _ 1);have k14:=Wj (M:=M) hcS k92 w v a hw;have k20:=Wk (M:=242) hcS k14 w v a hw;exact Zr k20 w how y v a hw hho hy0 j hv ha hj hA.1 hA.2 hf (n0 20 (by decide)) (n0 14 (by decide)) (Wi hv ha) (n0 92 (by decide)) (vS hcS w _ _ hw _) (fun suf hs=>(Mk.miss _ _ (by decide) _ _).trans (n8 _ _ _ _ _ suf hs)) h33' (fun suf hs=>(Mk.miss _ _ (by decide) _ _).trans ((Jk _ _ _ _ (by decide) _ _).trans (n8 _ _ _ _ _ suf hs))) h19'
 . have k14:=Wj (M:=M) hcS (Ki hcS) w (ag y w.length) (ag (y.tdiv ((2:Nat):Int)) (max (gt w (ag y w.length)).length 1)) hw
   have k20:=Wk (M:=242) hcS k14 w (ag y w.length) (ag (y.tdiv ((2:Nat):Int)) (max (gt w (ag y w.length)).length 1)) hw;exact Zm k20 w how y _ _ hw hho hy0 rfl rfl hA (n0 20 (by decide)) (n0 14 (by decide)) (vS hcS w _ _ hw _) (fun suf hs=>(Mk.miss _ _ (by decide) _ _).trans (n8 _ _ _ _ _ suf hs)) h19' h21'
end
def PZ (N:Nat)(p:aI):Prop:=p.2.2.2.1.length≤N∧p.2.2.2.2.length≤N∧cz p.1
def AZ (N:Nat)(A:dG):Prop:=A.1.length≤N∧A.2.length≤N∧∀p,p∈A.2→PZ N p
def g9 (V:bE):List aI:=V.flatMap (·.2)
structure WZ (N:Nat) (w:ah):Prop where
 n:w.length≤N
 al: (w.flatMap g9).length≤N
 ar:w.flatten.length≤N
 v:∀V,V∈w→V.length≤N∧∀A,A∈V→AZ N A
theorem PZ.mono {N K:Nat}(h:N≤K){p:aI}(hp:PZ N p):PZ K p:=⟨Nat.le_trans hp.1 h,Nat.le_trans hp.2.1 h,hp.2.2⟩
theorem AZ.mono {N K:Nat}(h:N≤K){A:dG}(hA:AZ N A):AZ K A:=⟨Nat.le_trans hA.1 h,Nat.le_trans hA.2.1 h,fun p hp=>(hA.2.2 p hp).mono h⟩
theorem lF {α β:Type}(f:α→List β)(x:α):∀ (l:List α)(i:Nat),((l.set i x).flatMap f).length≤(l.flatMap f).length+(f x).length
 | [],_=>by simp
 |y::l,0=>by simp only[List.set_cons_zero,List.flatMap_cons,List.length_append];omega
 |y::l,i+1=>by
  have:=lF f x l i;simp only[List.set_cons_succ,List.flatMap_cons,List.length_append];omega
theorem tP {α β:Type}(f:α→List β)(x:α):∀ (l:List α),x∈l→(f x).length≤(l.flatMap f).length
 |y::l,h=>by
  simp only[List.flatMap_cons,List.length_append];rcases List.mem_cons.1 h with rfl|h
  . omega
  . have:=tP f x l h;omega
theorem yM {α:Type}(l:List (List α))(i:Nat)(x:List α): (l.set i x).flatten.length≤l.flatten.length+x.length:=by
 have:=lF (fun y:List α=>y) x l i;simpa[List.flatMap_id'] using this
theorem WZ.set {N:Nat}{w:ah}(h:WZ N w)(v:Nat)(V:bE)(h1:V.length≤2*N+100)(h2: (g9 V).length≤2*N+100)(h3:∀A,A∈V→AZ (3*N+300) A):WZ (3*N+300) (w.set v V):=by
 have q1:=lF g9 V w v;have q2:=yM w v V;have q3:=h.n;have q4:=h.al;have q5:=h.ar;refine ⟨by rw[List.length_set];omega,by omega,by omega,fun X hX=>?_⟩;rcases List.mem_or_eq_of_mem_set hX with hX|rfl
 . have:=h.v X hX
   exact ⟨by omega,fun A hA=>(this.2 A hA).mono (by omega)⟩
 . exact ⟨by omega,h3⟩
theorem WZ.mono {N K:Nat}{w:ah}(h:WZ N w)(hk:N≤K):WZ K w:=
 ⟨Nat.le_trans h.n hk,Nat.le_trans h.al hk,Nat.le_trans h.ar hk,fun V hV=>⟨Nat.le_trans (h.v V hV).1 hk,fun A hA=>((h.v V hV).2 A hA).mono hk⟩⟩
theorem WZ.alv {N:Nat}{w:ah}(h:WZ N w){V:bE}(hV:V∈w): (g9 V).length≤N:=Nat.le_trans (tP g9 V w hV) h.al
theorem WZ.setL {N:Nat}{w:ah}(h:WZ N w){v a:Nat}(hv:v< w.length)(ha:a< (gt w v).length)(t:List UInt8)(l:List aI)(ht:t.length≤N+100)(hl:l.length≤N+1)(hp:∀p,p∈l→PZ (N+100) p):WZ (3*N+300) (w.set v ((gt w v).set a (t,l))):=by
 have hV:=bc w v hv;have q1:=(h.v _ hV).1;have q2:=h.alv hV;have q3:=lF (fun A:dG=>A.2) (t,l) (gt w v) a;refine h.set v _ (by rw[List.length_set];omega) ?_ fun A hA=>?_
 . have: (g9 ((gt w v).set a (t,l))).length≤(g9 (gt w v)).length+l.length:=q3
   omega
 . rcases List.mem_or_eq_of_mem_set hA with hA|rfl
   . exact ((h.v _ hV).2 A hA).mono (by omega)
   . exact ⟨by show t.length≤_;omega,by show l.length≤_;omega,fun p hp'=>(hp p hp').mono (by omega)⟩
theorem lQ {a c:Nat}{y:Int}{i:Nat}(hi:i< 4)(ha:a≤2000)(hc:c≤2000)(hy: -9223372036854775808≤y∧y≤9223372036854775807):nj (gt (As a c y) i):=by
 match i,hi with
 |0,_=>exact ⟨by show -9223372036854775808≤(a:Int);omega,by show (a:Int)≤9223372036854775807;omega⟩
 |1,_=>exact ⟨by show -9223372036854775808≤(-1:Int);omega,by show (-1:Int)≤9223372036854775807;omega⟩
 |2,_=>exact ⟨by show -9223372036854775808≤(c:Int);omega,by show (c:Int)≤9223372036854775807;omega⟩
 |3,_=>exact hy
theorem ce {n:Nat}(h:n≤2000):nj (n:Int):=⟨by omega,by omega⟩
theorem PN {i:Nat}: (gt txt9 i).length≤4:=by
 rcases i with _|_|_|_|_|_|_|_|_|i
 all_goals first|decide|exact Nat.zero_le _
theorem PO {i:Nat}: (gt tit4 i).length≤4:=by
 rcases i with _|_|_|_|i
 all_goals first|decide|exact Nat.zero_le _
theorem PP {N:Nat}{p:aI}(h:PZ N p)(how y:Int)(hy: -9223372036854775808≤y∧y≤9223372036854775807):PZ (N+100) (dT p how y):=by
 obtain ⟨h1,h2,h3,h4,h5⟩:=h;have a4:=bv y (m:=4) (by decide);have a8:=bv y (m:=8) (by decide);unfold dT;generalize ag how 10=n
 rcases n with _|_|_|_|_|_|_|_|_|n
 . exact ⟨by show p.2.2.2.1.length≤_;omega,by show p.2.2.2.2.length≤_;omega,lQ a4 (by decide) (by decide) hy,h4,h5⟩
 . exact ⟨by show p.2.2.2.1.length≤_;omega,by show p.2.2.2.2.length≤_;omega,h3,lQ a4 (by decide) (by decide) hy,h5⟩
 . exact ⟨by show p.2.2.2.1.length≤_;omega,by show p.2.2.2.2.length≤_;omega,h3,h4,lQ a4 (by decide) (by decide) hy⟩
 . exact ⟨by show p.2.2.2.1.length≤_;omega,by show p.2.2.2.2.length≤_;omega,h3,h4,h5⟩
 . exact ⟨by show p.2.2.2.1.length≤_;omega,by show p.2.2.2.2.length≤_;omega,h3,h4,h5⟩
 . exact ⟨by show (gt txt9 _).length≤_;have:=PN (i:=ag y 9);omega,by show p.2.2.2.2.length≤_;omega,h3,h4,h5⟩
 . exact ⟨by show p.2.2.2.1.length≤_;omega,by show (p.2.2.2.2++[_]).length≤_;rw[List.length_append,List.length_singleton];omega,h3,h4,h5⟩
 . exact ⟨by show p.2.2.2.1.length≤_;omega,by show 1≤_;omega,h3,h4,h5⟩
 . exact ⟨by show p.2.2.2.1.length≤_;omega,by show p.2.2.2.2.length≤_;omega,ce (by omega),ce (by omega),ce (by omega)⟩
 . exact ⟨by show (p.2.2.2.1++[_,_]).length≤_;rw[List.length_append];show _+2≤_;omega,by show p.2.2.2.2.length≤_;omega,h3,h4,h5⟩
theorem Ay (l:List Int)(a:Nat)(id:ID)(h:cz id):PZ 100 (eI l a id):=by
 have h1:=pn l a (jy l a);have h2:=uS l a;have h3:=sj l a (jy l a);exact ⟨by show (qs l a (jy l a)).length≤_;omega,by show (nB l a (jy l a)).length≤_;omega,h⟩
theorem Wl {N:Nat}:AZ N ([],[]):=⟨Nat.zero_le _,Nat.zero_le _,fun p hp=>by cases hp⟩
theorem Az (n:Nat)(t:List UInt8):g9 (List.replicate n (t,[])) = []:=by
 unfold g9
 induction n with
 |zero=>rfl
 |succ n ih=>rw[List.replicate_succ,List.flatMap_cons,ih];rfl
theorem AA (n:Nat): (List.replicate n ([]:bE)).flatMap g9= []:=by
 induction n with
 |zero=>rfl
 |succ n ih=>rw[List.replicate_succ,List.flatMap_cons,ih];rfl
theorem yN (n:Nat): (List.replicate n ([]:bE)).flatten= []:=by
 induction n with
 |zero=>rfl
 |succ n ih=>rw[List.replicate_succ,List.flatten_cons,ih];rfl
theorem Wm {N:Nat}{w:ah}(h:WZ N w){v b:Nat}(hv:v< w.length)(hb:b< (gt w v).length)(y:Int)(hy: -9223372036854775808≤y∧y≤9223372036854775807)(n:Nat):WZ (3*N+300) (Fw w v b y n):=by
 have hV:=bc w v hv;have hA:=bc _ b hb;have q1:=(h.v _ hV).1;have q2:=h.alv hV;have q3:=(h.v _ hV).2 _ hA;have hL:=q3.2.1;have ht:=q3.1;have n1:=h.n;have n2:=h.al;have n3:=h.ar;rcases n with _|_|_|_|_|_|_|n
 . have a9:=bv y (m:=9) (by decide)
   refine ⟨?_,?_,?_,fun V hV'=>?_⟩
   . show (w++List.replicate _ []).length≤_
     rw[List.length_append,List.length_replicate];omega
   . show ((w++List.replicate _ []).flatMap g9).length≤_
     rw[List.flatMap_append,AA,List.append_nil];omega
   . show (w++List.replicate _ []).flatten.length≤_
     rw[List.flatten_append,yN,List.append_nil];omega
   . rcases List.mem_append.1 hV' with hV'|hV'
     . exact ⟨by have:=(h.v V hV').1;omega,fun A hA=>((h.v V hV').2 A hA).mono (by omega)⟩
     . rw[List.eq_of_mem_replicate hV']
       exact ⟨Nat.zero_le _,fun A hA=>by cases hA⟩
 . exact h.setL hv hb _ _ (by have:=PO (i:=ag (y.tdiv ((4:Nat):Int)) 4);omega) (by omega) fun p hp=>(q3.2.2 p hp).mono (by omega)
 . refine h.set v _ (by rw[List.length_append,List.length_singleton];omega) ?_ fun A hA'=>?_
   . show (g9 (gt w v++[gt (gt w v) b])).length≤_
     have: (g9 (gt w v++[gt (gt w v) b])).length= (g9 (gt w v)).length+(gt (gt w v) b).2.length:=by
      unfold g9;rw[List.flatMap_append,List.length_append];simp
     omega
   . rcases List.mem_append.1 hA' with hA'|hA'
     . exact ((h.v _ hV).2 A hA').mono (by omega)
     . rw[List.mem_singleton.1 hA'];exact q3.mono (by omega)
 . show WZ _ (if _ then _ else _)
   split
   . exact h.setL hv hb _ _ (by omega) (by rw[List.length_drop];omega) fun p hp=>(q3.2.2 p (List.mem_of_mem_drop hp)).mono (by omega)
   . exact h.mono (by omega)
 . show WZ _ (if _ then _ else _)
   split
   . rename_i h1
     refine h.setL hv hb _ _ (by omega) (by rw[List.length_set,List.length_set];omega) fun p hp=>?_;rcases List.mem_or_eq_of_mem_set hp with hp|rfl
     . rcases List.mem_or_eq_of_mem_set hp with hp|rfl
       . exact (q3.2.2 p hp).mono (by omega)
       . exact (q3.2.2 _ (bc _ _ (by omega))).mono (by omega)
     . exact (q3.2.2 _ (bc _ _ (by omega))).mono (by omega)
   . exact h.mono (by omega)
 . have a3:=bv (y.tdiv ((4:Nat):Int)) (m:=3) (by decide)
   refine h.set v _ (by rw[List.length_append,List.length_replicate];omega) ?_ fun A hA'=>?_
   . show (g9 (gt w v++List.replicate _ _)).length≤_
     have:∀k,(g9 (gt w v++List.replicate k ([120],[]))).length= (g9 (gt w v)).length:=fun k=>by
      have e:=Az k [120];unfold g9 at e ⊢;rw[List.flatMap_append,e,List.append_nil]
     rw[this];omega
   . rcases List.mem_append.1 hA' with hA'|hA'
     . exact ((h.v _ hV).2 A hA').mono (by omega)
     . rw[List.eq_of_mem_replicate hA']
       exact ⟨by show 1≤_;omega,Nat.zero_le _,fun p hp=>by cases hp⟩
 . exact h.set v _ (Nat.zero_le _) (Nat.zero_le _) fun A hA=>by cases hA
 . refine h.setL hv hb _ _ (by omega) (by rw[List.length_append,List.length_singleton];omega) fun p hp=>?_
   have a12:=bv y (m:=12) (by decide);rcases List.mem_append.1 hp with hp|hp
   . exact (q3.2.2 p hp).mono (by omega)
   . rw[List.mem_singleton.1 hp]
     exact (Ay _ _ _ ⟨ce (n:=0) (by decide),ce (by omega),ce (n:=0) (by decide)⟩).mono (by omega)
theorem yO {N:Nat}{w:ah}(h:WZ N w)(how y:Int)(hy: -9223372036854775808≤y∧y≤9223372036854775807):WZ (3*N+300) (cR w how y):=by
 unfold cR;split
 . rename_i hA
   obtain ⟨v,a,j,hf,hv,ha,hj⟩:=u2 (bv y hA.1);rw[hf];have q3:=(h.v _ (bc w v hv)).2 _ (bc _ a ha);have hL:=q3.2.1;have ht:=q3.1;show WZ _ (Go.Sx.setL w v a ((gt (gt w v) a).2.set j (dT (gt (gt (gt w v) a).2 j) (how.tdiv ((2:Nat):Int)) (y.tdiv ((8:Nat):Int)))));refine h.setL hv ha _ _ (by omega) (by rw[List.length_set];omega) fun p hp=>?_;rcases List.mem_or_eq_of_mem_set hp with hp|rfl
   . exact (q3.2.2 p hp).mono (by omega)
   . exact PP (q3.2.2 _ (bc _ _ hj)) _ _ (iK y 8 hy)
 . split
   . have a10:=bv y (m:=10) (by decide)
     refine ⟨by rw[List.length_replicate];omega,by rw[AA];exact Nat.zero_le _,by rw[yN];exact Nat.zero_le _,fun V hV=>?_⟩;rw[List.eq_of_mem_replicate hV];exact ⟨Nat.zero_le _,fun A hA=>by cases hA⟩
   . rename_i h0
     have hv:=bv y (m:=w.length) (by omega);split
     . have a66:=bv y (m:=66) (by decide)
       refine h.set _ _ (by rw[List.length_replicate];omega) (by rw[Az];exact Nat.zero_le _) fun A hA=>?_;rw[List.eq_of_mem_replicate hA];exact Wl
     . rename_i h1
       exact Wm h hv (by omega) y hy _
theorem FO (w:ah):cm w=w.flatMap g9:=Fj w
theorem WZ.wg {N:Nat}{w:ah}(h:WZ N w)(hN:N≤100000):WG w:=by
 have h1:=h.n;have h2:=h.al;have h3:=h.ar;refine ⟨by omega,by rw[FO];omega,?_,fun V hV=>⟨by have:=(h.v V hV).1;omega,fun A hA=>?_⟩⟩
 . unfold nA;rw[List.take_length];omega
 . have q:=(h.v V hV).2 A hA
   exact ⟨by have:=q.1;omega,by have:=q.2.1;omega,fun p hp=>⟨by have:=(q.2.2 p hp).1;omega,by have:=(q.2.2 p hp).2.1;omega,(q.2.2 p hp).2.2⟩⟩
theorem FQ (l:List Int)(n:Nat):∀j,n+j≤8→∀p,p∈jm l n j→PZ 100 p
 |0,_,p,hp=>by cases hp
 |j+1,h,p,hp=>by
  rw[jm,List.mem_append,List.mem_singleton] at hp;rcases hp with hp|rfl
  . exact FQ l n j (by omega) p hp
  . have:=Ay l (9+4*(n+j)) (idk (n+j)) ⟨ce (n:=0) (by decide),ce (by omega),ce (n:=0) (by decide)⟩
    unfold PZ at this ⊢;rw[Cb,Lv];exact this
theorem FR (l:List Int)(i n:Nat)(h:n≤8):∀k,∀A,A∈ (dh l i n k).1→AZ 1000 A
 |0,A,hA=>by cases hA
 |k+1,A,hA=>by
  simp only[dh] at hA;rw[List.mem_append,List.mem_singleton] at hA;rcases hA with hA|rfl
  . exact FR l i n h k A hA
  . have h1:=oh l i n h k
    have h2:ln l i k (dh l i n k).2=min (1+cu l (5+2*i+k) 3) (8 - (dh l i n k).2):=rfl;refine ⟨?_,?_,?_⟩
    . have:=(sg l (3+i+k)).2.1;show (iY l (3+i+k)).length≤_;omega
    . show (jm _ _ _).length≤_;rw[qW];omega
    . exact fun p hp=>(FQ l _ _ (by omega) p hp).mono (by decide)
theorem FSq (l:List Int):∀i,∀V,V∈ (dB l i).1→V.length≤2∧∀A,A∈V→AZ 1000 A
 |0,V,hV=>by cases hV
 |i+1,V,hV=>by
  simp only[dB] at hV;rw[List.mem_append,List.mem_singleton] at hV;rcases hV with hV|rfl
  . exact FSq l i V hV
  . refine ⟨?_,FR l i _ (ol l i) _⟩
    rw[qX];have:=en l (1+i) (m:=2) (by decide);omega
theorem tQ (l:List Int):WZ 1000 (lx l):=by
 have h1:=Pi l;have h2:=en l 0 (m:=4) (by decide);have h3:=Vi l;rw[FO] at h3;refine ⟨by omega,by omega,?_,fun V hV=>?_⟩
 . have:=Fn (w:=lx l) (fun V hV=>(Fm l _ V hV).1) (lx l).length (Nat.le_refl _)
   unfold nA at this;rw[List.take_length] at this;omega
 . have:=FSq l _ V hV
   exact ⟨by omega,this.2⟩
theorem u6 {n:Nat}{xs xs':List C}(hl:xs.length=xs'.length)(hc:∀ (k:Nat) (x x':C),xs[k]? =some x→xs'[k]? =some x'→CLe x x'):CLe (.sl .full n xs) (.sl .full n xs'):=by
 refine ⟨fun G v h=>?_,fun s n' ys e=>by cases e⟩;simp only[Rep] at h ⊢;obtain ⟨a,cap,h1,h2,h3,h4,h5⟩:=h;refine ⟨a,cap,h1,h2,h3,h4,?_⟩;rcases h5 with h5| ⟨blk,off,h5,h6⟩
 . subst h5
   left
   exact List.eq_nil_of_length_eq_zero (by simpa using hl.symm)
 . right
   refine ⟨blk,off,h5,RepK.of_get fun i x' hx'=>?_⟩;have hi:=(List.getElem?_eq_some_iff.1 hx').1;obtain ⟨u,q1,q2,q3⟩:=h6.get i _ (List.getElem?_eq_getElem (l:=xs) (i:=i) (by omega));exact ⟨u,q1,q2,(hc i _ _ (List.getElem?_eq_getElem (by omega)) hx').1 _ _ q3⟩
def ou (w:ah):List C:=[sl vC .no w]
instance:Sca ou (sl vC .no):=⟨fun _=>rfl,fun _=>rfl,fun _=>rfl,fun _ _=>rfl⟩
instance:Nrf ou:=⟨fun k x=>by simp only[ou,noRefs,bf,Bool.and_self]⟩
theorem FT (a b c:ah):CLe (.sl .full 4 [sl vC .no a,sl vC .no b,sl vC .no c,.val (.slice none 0 0)]) (sl ou .full [a,b,c,[]]):=by
 refine u6 (xs:=[sl vC .no a,sl vC .no b,sl vC .no c,.val (.slice none 0 0)]) (xs':=cl ou [a,b,c,[]]) rfl fun k x x' h1 h2=>?_;rcases k with _|_|_|_|k
 . cases h1;cases h2;exact CLe.refl _
 . cases h1;cases h2;exact CLe.refl _
 . cases h1;cases h2;exact CLe.refl _
 . cases h1;cases h2;exact CLe.nil _
 . simp at h1
theorem Wp (y:Nat)(a b c:ah)(u:TypeDesc):fD (some ⟨u,1,y,[.slice none 0 0]⟩) 4 [(0,.agg [sl vC .no a]),(1,.agg [sl vC .no b]),(2,.agg [sl vC .no c]),(3,.agg [.val (.slice none 0 0)])] =some (vp (.sl .full 4 [sl vC .no a,sl vC .no b,sl vC .no c,.val (.slice none 0 0)])):=rfl
def iL (l:List Int)(how y:Int):List ah:=[lx l,cR (lx l) how y,cR (cR (lx l) how y) y how,[]]
attribute [go_sem] Wp
theorem yP {p:Prop}(e:p:=by intro KZ hZ;simp -implicitDefEqProofs (maxSteps:=2000000) (disch:=first|omega| (simp only[go_sem,lA,lD,lT] <;>omega) |decide) only[go_sem,↓reduceIte,Nat.reduceEqDiff,reduceCtorEq,Nat.reduceLT,Nat.reduceBEq,Nat.reduceAdd,e18,e51,e51b,hy];with_reducible exact hZ):p:=e
theorem Wn {p:Prop}(e:p:=by intro KZ hZ;simp -implicitDefEqProofs (maxSteps:=2000000) (disch:=first|omega| (simp only[go_sem,lA,lD,lT] <;>omega) |decide) only[go_sem,↓reduceIte,Nat.reduceEqDiff,reduceCtorEq,Nat.reduceLT,Nat.reduceBEq,Nat.reduceAdd,e18,e51,e51b,hy];with_reducible refine And.intro ?_ hZ;first|exact rfl|decide):p:=e
theorem Wo {p:Prop}(e:p:=by simp -implicitDefEqProofs (disch:=first|omega| (simp only[go_sem,lA,lD,lT] <;>omega) |decide) only[go_sem,↓reduceIte,Nat.reduceEqDiff,reduceCtorEq];all_goals (unfold iL;rw[h0,h1,h2])):p:=e
theorem adb {gl:Nat→C}{M:Nat}{pu:Nat→List C→Option C}(hcx:CxOK (ax gl M pu))(h18:∀l:List Int,LI l→pu 18 [sl iC .no l] =some (.agg [sl vC .no (lx l)]))(h51:∀ (w:ah) (how y:Int),WG w→(-9223372036854775808≤how∧how≤9223372036854775807)→(-9223372036854775808≤y∧y≤9223372036854775807)→pu 51 [.agg [sl vC .no w],.val (.int .i64 how),.val (.int .i64 y)] =some (.agg [sl vC .no (cR w how y)]))(l:List Int)(how y:Int)(hl:LI l)(hho: (-9223372036854775808≤how∧how≤9223372036854775807))(hy0: (-9223372036854775808≤y∧y≤9223372036854775807)):FC Tryd.prog gl 11 [sl iC .no l,.val (.int .i64 how),.val (.int .i64 y)] [] (sl ou .full (iL l how y)) []:=by
 replace hcx:=hcx.reN (M:=23);refine aH (cx:=ax gl 23 pu) (rs:=[.tmp 6]) rfl Tryd.func11 rfl rfl rfl (by simp only[List.length_cons,List.length_nil];decide) (by simp only[go_sem]) ?_;simp only[bj,go_sem];have hy:=True.intro;have e18:=h18 l hl;have g0:=(tQ l).wg (by decide);have z1:=yO (tQ l) how y hy0;have g1:=z1.wg (by decide);have e51:=h51 _ how y g0 hho hy0;have e51b:=h51 _ y how g1 hy0 hho;obtain ⟨W0,h0⟩:∃W0,lx l=W0:=⟨_,rfl⟩;rw[h0] at e18 e51 e51b;obtain ⟨W1,h1⟩:∃W1,cR W0 how y=W1:=⟨_,rfl⟩;rw[h1] at e51 e51b;obtain ⟨W2,h2⟩:∃W2,cR W1 y how=W2:=⟨_,rfl⟩;rw[h2] at e51b;refine Tr.w hcx [] _ [] rfl rfl rfl ?_ yP;refine Tr.w hcx [] _ [none] rfl rfl rfl ?_ yP;refine Tr.w hcx [] _ [none] rfl rfl rfl ?_ yP;refine cf hcx bM [1000022] _ [] rfl rfl rfl rfl ?_ Wn;refine Tr.live [(6,sl ou .full [W0,W1,W2,[]])] ?_ ?_;exact ⟨FT _ _ _,trivial⟩;exact Tr.ret Wo
attribute [local irreducible] cR lx in
theorem pr (l:List Int)(how y:Int): (iL l how y).length=4:=rfl
theorem Wq (l:List ah)(i:Nat)(h:i< l.length):eA ((cl ou l).drop i) 0 1=some (.agg [sl vC .no (gt l i)]):=by
 have e: (cl ou l).drop i=cl ou (l.drop i):=by
  have:=iP (f:=ou) l i;rw[Nat.mul_one] at this;exact this
 rw[e,List.drop_eq_getElem_cons h,cg];have:gt l i=l[i]:=by simp[gt,List.getD,List.getElem?_eq_getElem h]
 rw[this];rfl
attribute [go_sem high] Wq
end Go.Sx
