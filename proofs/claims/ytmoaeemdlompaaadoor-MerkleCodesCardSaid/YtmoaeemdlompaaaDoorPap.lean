/-
   And what follows.
-/
import Derived.Test.YtmoaeemdlompaaaDoorPan
import Derived.Test.YtmoaeemdlompaaaDoorPao
import Derived.Test.YtmoaeemdlompaaaDoorPaa
set_option linter.unusedSimpArgs false
set_option linter.unusedVariables false
namespace Go.Sx
open Go.RowKit
def cy (f:Nat)(pre:List C):Nat→C
 |0=> .top
 |d+1=> .kp [.fn f (pre++[cy f pre d])]
theorem TN (f:Nat)(pre:List C)(d:Nat): (cy f pre d).noR=cy f pre d:=by cases d<;>rfl
theorem uJ (k:Nat)(x:C):∀l:List C,noRefs k (l++[x]) = (noRefs k l && ah k x)
 | [] =>by simp[noRefs]
 |y::l=>by simp only[List.cons_append,noRefs,uJ k x l,Bool.and_assoc]
theorem p7 (k f:Nat)(pre:List C)(h:noRefs k pre=true):∀d,ah k (cy f pre d) =true
 |0=>rfl
 |d+1=>by simp only[cy,ah,noRefs,uJ,h,p7 k f pre h d,Bool.and_self]
theorem B6 (r:Nat→Nat)(x:C):∀l:List C,bkCs r (l++[x]) =bkCs r l++[ce r x]
 | [] =>by simp[bkCs]
 |y::l=>by simp only[List.cons_append,bkCs,B6 r x l]
theorem B7 (r:Nat→Nat)(f:Nat)(pre:List C):∀d,ce r (cy f pre d) =cy f (bkCs r pre) d
 |0=>by simp only[cy,ce]
 |d+1=>by simp only[cy,ce,bkCs,B6,B7 r f pre d]
theorem B8 (ρ:List Nat)(x:C):∀l:List C,mvCs ρ (l++[x]) =mvCs ρ l++[bA ρ x]
 | [] =>by simp[mvCs]
 |y::l=>by simp only[List.cons_append,mvCs,B8 ρ x l]
theorem B9 (ρ:List Nat)(f:Nat)(pre:List C):∀d,bA ρ (cy f pre d) =cy f (mvCs ρ pre) d
 |0=>by simp only[cy,bA]
 |d+1=>by simp only[cy,bA,mvCs,B8,B9 ρ f pre d]
theorem tt (ok:Nat→Bool)(b:Nat)(ys:List C)(x:C):∀l:List C,fzCs ok b ys (l++[x]) =fzCs ok b ys l++[bz ok b ys x]
 | [] =>by simp[fzCs]
 |y::l=>by simp only[List.cons_append,fzCs,tt ok b ys x l]
theorem Ca (ok:Nat→Bool)(x:C):∀l:List C,scrs ok (l++[x]) =scrs ok l++[dy ok x]
 | [] =>by simp[scrs]
 |y::l=>by simp only[List.cons_append,scrs,Ca ok x l]
theorem uK (ok:Nat→Bool)(b:Nat)(ys:List C)(f:Nat)(pre:List C):∀d,bz ok b ys (cy f pre d) =cy f (fzCs ok b ys pre) d
 |0=>by simp only[cy,bz]
 |d+1=>by simp only[cy,bz,fzCs,tt,uK ok b ys f pre d]
theorem xl (h:Hp)(b f:Nat)(pre:List C)(h1:scrs (cR h b) pre=pre)(h2:∀ys,fzCs (cR h b) b ys pre=pre):∀m,lr h b [.fn f (pre++[.bp b 0])] m= [.fn f (pre++[cy f pre m])]
 |0=>by
  have e:cR h b b=false:=by simp[cR]
  simp only[lr,fzY,scrs,dy,Ca,h1,e,Bool.false_eq_true,if_false];rfl
 |m+1=>by
  simp only[lr,fzCs,bz,tt,h2,xl h b f pre h1 h2 m,if_true,List.drop_zero,List.map_cons,List.map_nil]
  rfl
section
variable (ok:Nat→Bool) (b:Nat) (ys:List C)
theorem uL (b' o n:Nat):bz ok b ys (.sv b' o n) =if b'=b then (if o+n≤ys.length then .sl .no n ((ys.drop o).take n) else .top) else if ok b'=true then .sv b' o n else .top:=by simp only[bz]
theorem uM (b' o:Nat):bz ok b ys (.bp b' o) =if b'=b then .kp (ys.drop o) else if ok b'=true then .bp b' o else .top:=by simp only[bz]
theorem uN (b':Nat):bz ok b ys (.mp b') =if b'=b then .top else if ok b'=true then .mp b' else .top:=by simp only[bz]
theorem uO (b' t n:Nat):bz ok b ys (.bt b' t n) =if b'=b then .top else if ok b'=true then .bt b' t n else .top:=by simp only[bz]
theorem Cb (b o n:Nat):dy ok (.sv b o n) =if ok b=true then .sv b o n else .top:=by simp only[dy]
theorem Cc (b n:Nat)(s:Nat×Nat):dy ok (.gv b n s) =if ok b=true then .gv b n s else .top:=by simp only[dy]
theorem Cd (b o:Nat):dy ok (.bp b o) =if ok b=true then .bp b o else .top:=by simp only[dy]
theorem Ce (b:Nat):dy ok (.mp b) =if ok b=true then .mp b else .top:=by simp only[dy]
theorem Cf (b t n:Nat):dy ok (.bt b t n) =if ok b=true then .bt b t n else .top:=by simp only[dy]
theorem Cg (xs:List C):dy ok (.kp xs) = .kp (scrs ok xs):=by simp only[dy]
theorem wj (xs:List C):dy ok (.agg xs) = .agg (scrs ok xs):=by simp only[dy]
theorem Ch (f:Nat)(xs:List C):dy ok (.fn f xs) = .fn f (scrs ok xs):=by simp only[dy]
theorem wl:dy ok .top= .top:=by simp only[dy]
theorem wm (v:Value):dy ok (.val v) = .val v:=by simp only[dy]
theorem tu:scrs ok [] = []:=by simp only[scrs]
theorem p8 (x:C)(xs:List C):scrs ok (x::xs) =dy ok x::scrs ok xs:=by simp only[scrs]
theorem so {α:Type}(f:α→List C)[h:Fla f](l:List α):scrs ok (cl f l) =cl f l:=scrs_flat ok _ (gH f l)
theorem Ci {α:Type}(f:α→List C)[h:Fla f](r:Rt)(l:List α):dy ok (sl f r l) =sl f r l:=by unfold sl;simp only[dy,so]
theorem Cj (h:Hp):lw ok b ys h= (h.map fun o=>o.map (fzCs ok b ys)).set b (some eb):=rfl
theorem Jv (h:Hp)(cells:List C):fzY h b cells= (scrs (cR h b) cells).map C.noR:=rfl
end
section
variable {cx:Cx} {Q:Ex→St→Prop} {e:List (Nat×C)} {h:Hp} {c:Code}
theorem bW (hcx:CxOK cx)(b:Nat)(cells:List C){e':List (Nat×C)}{h':Hp}(H:Tr cx 0 c ⟨A e',h'⟩ Q)
 (hb:h.at b=some cells:=by simp only[go_sem])
 (E:∀K:List (Nat×C)→Hp→Prop,K e' h'→K (jY (bz (cR h b) b (fzY h b cells)) e) (lw (cR h b) b (fzY h b cells) h):=by
   intro KZ hZ
   simp -implicitDefEqProofs only[go_sem,Jv,Jn,Cj,mF,la,n4,se,sf,sg,uE,uF,pY,uL,uM,uN,uO,uG,oV,m5,n5,Cb,Cc,Cd,Ce,Cf,Cg,wj,Ch,wl,wm,Ci,tu,p8,so,uK,pZ,Option.isSome_some,Option.isSome_none,Nat.reduceBNe,Bool.true_and,Bool.and_true,Bool.false_and,Bool.true_or,Bool.false_or,↓reduceIte,Nat.reduceEqDiff,reduceCtorEq,Nat.zero_ne_one,Nat.one_ne_zero]
   with_reducible exact hZ):Tr cx 0 c ⟨A e,h⟩ Q:=
 Jl hcx b cells hb (Nat.zero_le _) (fun j hj=>absurd hj (Nat.not_lt_zero j)) (E (fun x y=>Tr cx 0 c ⟨A x,y⟩ Q) H)
theorem FM (hcx:CxOK cx)(b m f:Nat)(pre:List C){e':List (Nat×C)}{h':Hp}(H:Tr cx 0 c ⟨A e',h'⟩ Q)
 (hb:h.at b=some [.fn f (pre++[.bp b 0])]:=by simp only[go_sem])
 (h1:scrs (cR h b) pre=pre:=by simp -implicitDefEqProofs only[go_sem,Cb,Cc,Cd,Ce,Cf,Cg,wj,Ch,wl,wm,Ci,tu,p8,so,pZ,Option.isSome_some,Nat.reduceBNe,Bool.true_and,Bool.true_or,↓reduceIte,Nat.reduceEqDiff,reduceCtorEq])
 (h2:∀ys,fzCs (cR h b) b ys pre=pre:=by intro ys;simp -implicitDefEqProofs only[go_sem,n4,se,sf,sg,uE,uF,pY,uL,uM,uN,uO,uG,oV,m5,n5,pZ,Option.isSome_some,Nat.reduceBNe,Bool.true_and,Bool.true_or,↓reduceIte,Nat.reduceEqDiff,reduceCtorEq])
 (E:∀K:List (Nat×C)→Hp→Prop,K e' h'→K (jY (bz (cR h b) b [.fn f (pre++[cy f pre m])]) e) (lw (cR h b) b [.fn f (pre++[cy f pre m])] h):=by
   intro KZ hZ
   simp -implicitDefEqProofs only[go_sem,Cj,mF,la,n4,se,sf,sg,uE,uF,pY,uL,uM,uN,uO,uG,oV,m5,n5,uK,pZ,Option.isSome_some,Option.isSome_none,Nat.reduceBNe,Bool.true_and,Bool.and_true,Bool.false_and,Bool.true_or,Bool.false_or,↓reduceIte,Nat.reduceEqDiff,reduceCtorEq,Nat.zero_ne_one,Nat.one_ne_zero]
   with_reducible exact hZ):Tr cx 0 c ⟨A e,h⟩ Q:=
 TM hcx b m _ hb (Nat.zero_le _) (fun j hj=>absurd hj (Nat.not_lt_zero j)) (by rw[xl h b f pre h1 h2 m];exact E (fun x y=>Tr cx 0 c ⟨A x,y⟩ Q) H)
end
theorem afl {P:Program}{t e:TypeId}{s y:Nat}{z:List Value}(op:BinOp)(a:Option Addr)(n c:Nat)(h:td P t=some ⟨.slice e,s,y,z⟩)(hg:P.eqGuardType P.depth t=false):aw P op t (.val (.slice a n c)) (.val (.slice none 0 0)) =pm op a.isNone:=by
 have he:jA P 9 t (.val (.slice a n c)) (.val (.slice none 0 0)) =some a.isNone:=by
  unfold jA;rw[h]
  show BE (some a.isNone) (some true) =_
  cases a<;>rfl
 show gP P op t _ _=_
 unfold gP
 rw[if_pos ⟨.inr (.inl ⟨rfl,rfl⟩),hg⟩]
 unfold pm
 cases op<;>simp[he,vp,Plan.pure]
theorem RepL.pick {G:Gh}{x:C}:∀ {pre post:List C}{vs:List Value},RepL G (pre++x::post) vs→∃v,Rep G x v∧RepL G (pre++ .val v::post) vs
 | [],post,vs,h=>by
   simp only[List.nil_append,RepL] at h ⊢
   obtain ⟨v,vs',rfl,h1,h2⟩:=h
   exact ⟨v,h1,v,vs',rfl,au.2 rfl,h2⟩
 |p::pre,post,vs,h=>by
  simp only[List.cons_append,RepL] at h ⊢
  obtain ⟨v,vs',rfl,h1,h2⟩:=h
  obtain ⟨u,g1,g2⟩:=RepL.pick h2
  exact ⟨u,g1,v,vs',rfl,h1,g2⟩
theorem Nm {P:Program}{gl:Nat→C}{f:Nat}{pre post:List C}{h h':Hp}{c:C}{r:Rt}(he:iE P f)(H:∀ (a:Option Addr) (cap:Nat),cap≤maxLen→FC P gl f (pre++ .val (.slice a 0 cap)::post) h c h'):FC P gl f (pre++ .sl r 0 []::post) h c h':=by
 refine ⟨he,fun G w vs W hT hg hr=>?_⟩
 obtain ⟨v,h1⟩:∃v,Rep G (.sl r 0 []) v∧RepL G (pre++ .val v::post) vs.toList:=RepL.pick hr
 obtain ⟨q,hl⟩:=h1
 simp only[Rep] at q
 obtain ⟨a,cap,rfl,_,h3,_,_⟩:=q
 exact (H a cap h3).2 G w vs W hT hg hl
theorem Jw (a:Option Addr)(cap:Nat)(h:cap≤maxLen):CLe (.val (.slice a 0 cap)) (.sl .no 0 []):=
 ⟨fun G v q=>by rw[au] at q;simp only[Rep];exact ⟨a,cap,q,Nat.zero_le _,h,fun e=>(by cases e),by simp⟩,fun s n xs e=>by cases e⟩
theorem Nn (b f:Nat)(pre:List C)(d:Nat)(l:List C):gh b (cy f pre d::l) =gh b l:=by cases d<;>rfl
attribute [go_sem] TN Nn
end Go.Sx
namespace Go.Sx
open Go.RowKit Go.Proofs
set_option maxRecDepth 100000
set_option maxHeartbeats 8000000
theorem ad1 (l:List ab)(d:Nat):cy 79 [.kp [sl eC .no l]] (d+1) = .kp [.fn 79 [.kp [sl eC .no l],cy 79 [.kp [sl eC .no l]] d]]:=rfl
def OkL (l:List ab):Prop:=l.length≤4096∧∀i,i< l.length→(gt l i).1.length≤65536∧(gt l i).2.length≤65536
theorem lL {l:List ab}(h:¬cb l=4):OkL l:=by
 unfold cb at h
 split at h
 . exact absurd rfl h
 . rename_i hn
   refine ⟨by omega,fun i hi=>?_⟩
   have:cE (gt l i) =false:=Bool.eq_false_iff.2 fun e=>hn (Or.inr (zN hi e))
   simp[cE] at this;omega
theorem t6 {l:List ab}{d a b:Nat}(h:b - a≤1):du l d a b=fK (gt l a):=by
 cases d with
 |zero=>rfl
 |succ d=>unfold du;rw[if_pos h]
theorem A9 {l:List ab}{d a b:Nat}(h:¬b - a≤1):du l (d+1) a b=iQ (du l d a (a+aR (b - a))) (du l d (a+aR (b - a)) b):=by
 rw[du,if_neg h]
def dR (l:List ab):List UInt8:=g8 l.length (lm l)
theorem kb (l:List ab): (dR l).length=16:=gz _ _
def na (l:List ab):List UInt8×Nat:=if cb l=0 then (dR l,0) else (List.replicate 16 0,cb l)
theorem QW {l:List ab}(h:¬cb l=0):na l= (List.replicate 16 0,cb l):=if_neg h
theorem vE {l:List ab}(h:cb l=0):na l= (dR l,0):=if_pos h
theorem Hi {l:List ab}(h:l.length=0)(d:List UInt8):g8 0 d=dR l:=by unfold dR;rw[h];rfl
theorem vF {p:Prop}(e:p:=by intro KZ hZ;simp -implicitDefEqProofs (disch:=first|omega| (simp only[go_sem,lA,lD,lT,cI] <;>omega) |decide) only[go_sem,↓reduceIte,Nat.reduceEqDiff,reduceCtorEq,Nat.reduceLT,Nat.reduceBEq,Nat.reduceAdd,hy];with_reducible exact hZ):p:=e
theorem QX {p:Prop}(e:p:=by simp -implicitDefEqProofs (disch:=first|omega| (simp only[go_sem,lA,lD,lT,cI] <;>omega) |decide) only[go_sem,↓reduceIte,Nat.reduceEqDiff,reduceCtorEq];all_goals (rw[t6 hab.2.2])):p:=e
theorem PF {gl:Nat→C}{M:Nat}{pu:Nat→List C→Option C}(hcx:CxOK (af gl M pu))(h80:∀x:ab,x.1.length≤65536∧x.2.length≤65536→pu 80 [.agg (eC x)] =some (.agg (cl bC (fK x))))(l:List ab)(d a b:Nat)(hl:OkL l)(hab:a< b∧b≤l.length∧b - a≤1):FC Tryd.prog gl 79 [.val (nI a),.val (nI b),.kp [sl eC .no l],cy 79 [.kp [sl eC .no l]] d] [] (.agg (cl bC (du l d a b))) []:=by
 replace hcx:=hcx.reN (M:=29)
 refine aB (cx:=af gl 29 pu) (rs:=[.cell 6 29]) rfl Tryd.func79 rfl rfl rfl (by simp only[List.length_cons,List.length_nil];decide) (by simp only[go_sem]) ?_
 simp only[bq,go_sem]
 have hy:=True.intro
 have h11:b - a=1:=by omega
 have hll:=hl.1
 have e80:=h80 (gt l a) (hl.2 a (by omega))
 refine Tr.w hcx [] _ [none] rfl rfl rfl ?_ vF
 refine aa fun K1 hK1=>?_
 have hy:= @h11
 refine Tr.w hcx [] _ [] rfl rfl rfl ?_ vF
 refine bf rfl ?_
 have hy:= @e80
 refine Tr.w hcx [] _ [] rfl rfl rfl ?_ vF
 exact Tr.ret QX
theorem vH {p:Prop}(e:p:=by intro KZ hZ;simp -implicitDefEqProofs (disch:=first|omega| (simp only[go_sem,lA,lD,lT,gA,cO] <;>omega) |decide) only[go_sem,↓reduceIte,Nat.reduceEqDiff,reduceCtorEq,Nat.reduceLT,Nat.reduceBEq,Nat.reduceAdd,hy];with_reducible exact hZ):p:=e
theorem QY {p:Prop}(e:p:=by intro KZ hZ;simp -implicitDefEqProofs (disch:=first|omega| (simp only[go_sem,lA,lD,lT,gA,cO] <;>omega) |decide) only[go_sem,↓reduceIte,Nat.reduceEqDiff,reduceCtorEq,Nat.reduceLT,Nat.reduceBEq,Nat.reduceAdd,hy];refine And.intro ?_ hZ;exact rfl):p:=e
theorem QZ {p:Prop}(e:p:=by simp -implicitDefEqProofs (disch:=first|omega| (simp only[go_sem,lA,lD,lT,gA,cO] <;>omega) |decide) only[go_sem,↓reduceIte,Nat.reduceEqDiff,reduceCtorEq];all_goals (rw[A9 (by omega)])):p:=e
theorem ad2 {gl:Nat→C}{M:Nat}{pu:Nat→List C→Option C}(hcx:CxOK (af gl M pu))(h81:∀x y:Nat,x≤y∧y≤4611686018427387000→pu 81 [.val (nI x),.val (nI y)] =some (.val (nI (x+aR (y - x)))))(h82:∀a b:List UInt8,a.length=16→b.length=16→pu 82 [.agg (cl bC a),.agg (cl bC b)] =some (.agg (cl bC (iQ a b))))(l:List ab)(d a b:Nat)(hl:OkL l)(hab:a< b∧b≤l.length∧b - a≤2 ^ (d+1)∧1< b - a)(h79:∀ (a b:Nat),a< b∧b≤l.length∧b - a≤2 ^ d→pu 79 [.val (nI a),.val (nI b),.kp [sl eC .no l],cy 79 [.kp [sl eC .no l]] d] =some (.agg (cl bC (du l d a b)))):FC Tryd.prog gl 79 [.val (nI a),.val (nI b),.kp [sl eC .no l],cy 79 [.kp [sl eC .no l]] (d+1)] [] (.agg (cl bC (du l (d+1) a b))) []:=by
 replace hcx:=hcx.reN (M:=29)
 refine aB (cx:=af gl 29 pu) (rs:=[.cell 6 29]) rfl Tryd.func79 rfl rfl rfl (by simp only[List.length_cons,List.length_nil];decide) (by simp only[go_sem]) ?_
 simp only[bq,go_sem]
 have hy:=True.intro
 have h11: (b - a=1) =False:=eq_false (by omega)
 have hll:=hl.1
 have e81:=h81 a b (by omega)
 have hh:=gT (n:=b - a) (by omega)
 have hh2:=fg (by omega) hab.2.2.1
 have e1:=h79 a (a+aR (b - a)) (by omega)
 have e2:=h79 (a+aR (b - a)) b (by omega)
 have e82:=h82 _ _ (gA l d a (a+aR (b - a))) (gA l d (a+aR (b - a)) b)
 refine Tr.w hcx [] _ [none] rfl rfl rfl ?_ vH
 refine aa fun K1 hK1=>?_
 have hy:= @h11
 refine Tr.w hcx [] _ [] rfl rfl rfl ?_ vH
 refine bc rfl ?_
 refine Tr.skip ?_
 refine hK1 _ ?_
 have hy:= @e81
 refine Tr.w hcx [1000019] _ [] rfl rfl rfl ?_ vH
 have hy:=And.intro @ad1 (And.intro @e1 (And.intro @e2 @e82))
 refine Tr.wD hcx ct [] _ [] rfl rfl rfl rfl ?_ QY
 exact Tr.ret QZ
theorem t7 {p:Prop}(e:p:=by intro KZ hZ;simp -implicitDefEqProofs (disch:=first|omega| (simp only[go_sem,lA,lD,lT,gA] <;>omega) |decide) only[go_sem,↓reduceIte,Nat.reduceEqDiff,reduceCtorEq,Nat.reduceLT,Nat.reduceBEq,Nat.reduceAdd,hy];with_reducible exact hZ):p:=e
theorem Yz {p:Prop}(e:p:=by simp -implicitDefEqProofs (disch:=first|omega| (simp only[go_sem,lA,lD,lT,gA] <;>omega) |decide) only[go_sem,↓reduceIte,Nat.reduceEqDiff,reduceCtorEq];all_goals (rfl)):p:=e
theorem aiS {gl:Nat→C}{M:Nat}{pu:Nat→List C→Option C}(hcx:CxOK (af gl M pu))(h79:∀ (l:List ab) (d a b:Nat),OkL l→a< b∧b≤l.length∧b - a≤2 ^ d→pu 79 [.val (nI a),.val (nI b),.kp [sl eC .no l],cy 79 [.kp [sl eC .no l]] d] =some (.agg (cl bC (du l d a b))))(l:List ab)(hl:OkL l)(h0:0< l.length):FC Tryd.prog gl 51 [sl eC .no l] [] (.agg (cl bC (lm l))) []:=by
 replace hcx:=hcx.reN (M:=9)
 refine aB (cx:=af gl 9 pu) (rs:=[.cell 2 29]) rfl Tryd.func51 rfl rfl rfl (by simp only[List.length_cons,List.length_nil];decide) (by simp only[go_sem]) ?_
 simp only[bq,go_sem]
 have hy:=True.intro
 have hll:=hl.1
 have e79:=h79 l 12 0 l.length hl (by omega)
 refine Tr.w hcx [] _ [none,none] rfl rfl rfl ?_ t7
 refine Tr.w hcx [] _ [none] rfl rfl rfl ?_ t7
 refine Tr.w hcx [] _ [] rfl rfl rfl ?_ t7
 refine Tr.k [1,2,3] ?_
 refine bW hcx 0 [sl eC .no l] ?_
 refine FM hcx 2 12 79 [.kp [sl eC .no l]] ?_
 have hy:= @e79
 refine Tr.w hcx [] _ [] rfl rfl rfl ?_ t7
 exact Tr.ret Yz
theorem kJ {p:Prop}(e:p:=by intro KZ hZ;simp -implicitDefEqProofs (disch:=first|omega| (simp only[go_sem,lA,lD,lT,gz,sS] <;>omega) |decide) only[go_sem,↓reduceIte,Nat.reduceEqDiff,reduceCtorEq,Nat.reduceLT,Nat.reduceBEq,Nat.reduceAdd,b1,hy];with_reducible exact hZ):p:=e
theorem Ba {p:Prop}(e:p:=by simp -implicitDefEqProofs (disch:=first|omega| (simp only[go_sem,lA,lD,lT,gz,sS] <;>omega) |decide) only[go_sem,↓reduceIte,Nat.reduceEqDiff,reduceCtorEq];all_goals (first| (rw[QW b1];done) | (rw[vE b1,Hi hc13];done) | (rw[vE b1];rfl))):p:=e
theorem aiT {gl:Nat→C}{M:Nat}{pu:Nat→List C→Option C}(hcx:CxOK (af gl M pu))(h15:∀l:List ab,LB l→pu 15 [sl eC .no l] =some (.val (nI (cb l))))(h50:∀ (n:Nat) (d:List UInt8),n≤4096→d.length=16→pu 50 [.val (nI n),.agg (cl bC d)] =some (.agg (cl bC (g8 n d))))(h51:∀l:List ab,OkL l→0< l.length→pu 51 [sl eC .no l] =some (.agg (cl bC (lm l))))(l:List ab)(hl:LB l):FC Tryd.prog gl 12 [sl eC .no l] [] (.tup [.agg (cl bC (na l).1),.val (nI (na l).2)]) []:=by
 replace hcx:=hcx.reN (M:=21)
 refine aB (cx:=af gl 21 pu) (rs:=[.cell 2 29,.tmp 3]) rfl Tryd.func12 rfl rfl rfl (by simp only[List.length_cons,List.length_nil];decide) (by simp only[go_sem]) ?_
 simp only[bq,go_sem]
 have b1:=True.intro
 have hy:=True.intro
 have e15:=h15 l hl
 refine Tr.w hcx [] _ [none] rfl rfl rfl ?_ kJ
 refine aa fun K1 hK1=>?_
 have hy:= @e15
 refine Tr.w hcx [1000006] _ [] rfl rfl rfl ?_ kJ
 by_cases b1:cb l=0
 ·
  have hok:=lL (l:=l) (by omega)
  have hll:=hok.1
  have e0:=h50 0 (List.replicate 16 0) (by omega) rfl
  have e1:=h50 l.length (lm l) hll (sS l)
  have hy:=True.intro
  refine Tr.w hcx [] _ [] rfl rfl rfl ?_ kJ
  refine bc rfl ?_
  refine Tr.skip ?_
  refine hK1 _ ?_
  refine aa fun K2 hK2=>?_
  refine Tr.w hcx [] _ [] rfl rfl rfl ?_ kJ
  refine aq rfl (fun hc13=>?_) (fun hc13=>?_)
  ·
   have hl0:=hc13
   have hy:= @e0
   refine Tr.w hcx [] _ [] rfl rfl rfl ?_ kJ
   exact Tr.ret Ba
  have e51:=h51 l hok (by omega)
  refine Tr.skip ?_
  refine hK2 _ ?_
  have hy:=And.intro @e51 @e1
  refine Tr.w hcx [] _ [] rfl rfl rfl ?_ kJ
  exact Tr.ret Ba
 skip
 have hy:=True.intro
 refine Tr.w hcx [] _ [] rfl rfl rfl ?_ kJ
 refine bf rfl ?_
 refine Tr.w hcx [1000010] _ [] rfl rfl rfl ?_ kJ
 exact Tr.ret Ba
end Go.Sx
namespace Go.Sx
open Go.RowKit
mutual
theorem aaR (n:Nat):∀x:C,ce (fun i=>i - n) (ce (n+ ·) x) =x
 | .sv b o m=>by simp only[ce,Nat.add_sub_cancel_left]
 | .gv b m s=>by simp only[ce,Nat.add_sub_cancel_left]
 | .bp b o=>by simp only[ce,Nat.add_sub_cancel_left]
 | .mp b=>by simp only[ce,Nat.add_sub_cancel_left]
 | .bt b t m=>by simp only[ce,Nat.add_sub_cancel_left]
 | .sl r m xs=>by simp only[ce,bks_inv n xs]
 | .kp xs=>by simp only[ce,bks_inv n xs]
 | .agg xs=>by simp only[ce,bks_inv n xs]
 | .tup xs=>by simp only[ce,bks_inv n xs]
 | .fn f xs=>by simp only[ce,bks_inv n xs]
 | .top=>by simp only[ce]
 | .val v=>by simp only[ce]
theorem bks_inv (n:Nat):∀l:List C,bkCs (fun i=>i - n) (bkCs (n+ ·) l) =l
 | [] =>by simp only[bkCs]
 |x::l=>by simp only[bkCs,aaR n x,bks_inv n l]
end
theorem uP {n:Nat}{l m:List C}(h:bkCs (n+ ·) l=bkCs (n+ ·) m):l=m:=by
 rw[←bks_inv n l,h,bks_inv]
theorem uQ (n:Nat):∀ {h k:Hp},dz n h=dz n k→h=k
 | [],[],_=>rfl
 | [],o::k,e=>by simp[dz] at e
 |o::h,[],e=>by simp[dz] at e
 |o::h,p::k,e=>by
  simp only[mH,List.cons.injEq] at e
  rw[uQ n e.2]
  congr 1
  cases o with
  |none=>cases p with
   |none=>rfl
   |some q=>simp at e
  |some r=>cases p with
   |none=>simp at e
   |some q=>simp only[Option.map_some,Option.some.injEq] at e;rw[uP e.1]
theorem wn (r:Nat→Nat):∀ (l:List C)(j:Nat),(bkCs r l)[j]? = (l[j]?).map (ce r)
 | [],j=>by simp[bkCs]
 |x::l,0=>by simp[bkCs]
 |x::l,j+1=>by simp[bkCs,wn r l j]
theorem sP {G:Gh}:∀ {l:List C}{vs:List Value}{x:C},x∈l→RepL G l vs→∃v,Rep G x v
 | [],_,_,h,_=>by cases h
 |y::l,vs,x,h,r=>by
  simp only[RepL] at r
  obtain ⟨v,vs',_,h1,h2⟩:=r
  rcases List.mem_cons.1 h with rfl|h
  . exact ⟨v,h1⟩
  . exact sP h h2
theorem Jx {P:Program}{gl:Nat→C}{f:Nat}{args:List C}{c:C}{h':Hp}(he:iE P f)(b o:Nat)(ha:C.bp b o∈args):FC P gl f args [] c h':=by
 refine ⟨he,fun G w vs W _ _ hr=>?_⟩
 obtain ⟨v,hv⟩:=sP ha hr
 simp only[Rep] at hv
 obtain ⟨blk,h1,_⟩:=hv
 obtain ⟨⟨c,hc⟩,_⟩:=W.dom b blk h1
 cases hc
def OkH (h:Hp):Prop:= ∀o∈h,lF o=true
structure Small (P:Program) (gl:Nat→C) (f:Nat) (α:Type) where
 k:Nat
 j:Nat
 args:α→List C
 X:α→Hp
 r:α→C
 Y:α→Hp
 k0:0< k
 hk:∀a,(X a).length=k
 hy:∀a,(Y a).length=k
 al:∀a,∀o∈X a,((bK o).isSome|| (fV o).isSome) =true
 nr:∀a,noRefs k (args a) =true
 nx:∀a,m6 k (X a) =true
 at0:∀a,∃o,(args a)[j]? =some (.bp 0 o)
 inj:∀a b,args a=args b→X a=X b→r a=r b∧Y a=Y b
 fc:∀a,FC P gl f (args a) (X a) (r a) (Y a)
section
variable {P:Program} {gl:Nat→C} {f:Nat} {α:Type}
inductive SmD (α:Type) where
 |n (a:α) (pre suf:Hp) (h1:OkH pre) (h2:OkH suf)
 |e (xs:List C) (h:∃b o,C.bp b o∈xs)
def Small.enc (S:Small P gl f α):SmD α→List C×Hp
 | .n a pre suf _ _=>(bkCs (pre.length+ ·) (S.args a),pre++(dz pre.length (S.X a)++suf))
 | .e xs _=>(xs,[])
def Small.out (S:Small P gl f α):SmD α→C×Hp
 | .n a pre suf _ _=>(ce (kw pre.length S.k suf.length) (S.r a),pre++((S.Y a).map (Option.map (bkCs (kw pre.length S.k suf.length)))++suf))
 | .e _ _=>(.top,[])
theorem sq (n:Nat)(h:Hp): (dz n h).length=h.length:=by simp[dz]
theorem Small.ij (S:Small P gl f α)(x y:SmD α)(h:S.enc x=S.enc y):S.out x=S.out y:=by
 cases x with
 |n a pre suf h1 h2=>
  cases y with
  |n b pre' suf' h1' h2'=>
   simp only[Small.enc,Prod.mk.injEq] at h
   obtain ⟨e1,e2⟩:=h
   have hp:pre.length=pre'.length:=by
    obtain ⟨o,ho⟩:=S.at0 a
    obtain ⟨o',ho'⟩:=S.at0 b
    have g1:=wn (pre.length+ ·) (S.args a) S.j
    have g2:=wn (pre'.length+ ·) (S.args b) S.j
    rw[e1,g2,ho,ho'] at g1
    simp only[Option.map_some,ce,Option.some.injEq,C.bp.injEq,Nat.add_zero] at g1
    exact g1.1.symm
   obtain ⟨e3,e4⟩:=List.append_inj e2 hp
   subst e3
   obtain ⟨e5,e6⟩:=List.append_inj e4 (by rw[sq,sq,S.hk,S.hk])
   obtain ⟨q1,q2⟩:=S.inj a b (uP e1) (uQ _ e5)
   subst e6
   simp only[Small.out,q1,q2]
  |e xs hx=>
   exfalso
   simp only[Small.enc,Prod.mk.injEq] at h
   have:=congrArg List.length h.2
   simp only[List.length_append,sq,S.hk,List.length_nil] at this
   have:=S.k0;omega
 |e xs hx=>
  cases y with
  |n b pre' suf' h1' h2'=>
   exfalso
   simp only[Small.enc,Prod.mk.injEq] at h
   have:=congrArg List.length h.2
   simp only[List.length_append,sq,S.hk,List.length_nil] at this
   have:=S.k0;omega
  |e ys hy=>rfl
noncomputable def Small.tab (S:Small P gl f α)(hp:Nat→List C→Hp→Option (C×Hp)):Nat→List C→Hp→Option (C×Hp):=extH hp f (nn S.enc S.out)
theorem jG {km:TypeId→Value→Bool}{pu:Nat→List C→Option C}{hp:Nat→List C→Hp→Option (C×Hp)}{N M:Nat}(hcx:CxOK ⟨P,N,gl,pu,hp,fun _=>false,km,true⟩)(he:iE P f)(S:Small P gl f α):
 CxOK ⟨P,M,gl,pu,S.tab hp,fun _=>false,km,true⟩:=CxOK.extH hcx fun a=>by
 cases a with
 |n a pre suf h1 h2=>
  have h:=aaP (S.fc a) pre suf h1 h2 (S.al a) (by rw[S.hk];exact S.nr a) (by rw[S.hk];exact TL (S.nx a)) (by rw[S.hk,S.hy];exact Nat.le_refl _) hcx.glo
  rw[S.hk,List.take_of_length_le (by rw[S.hy];exact Nat.le_refl _),List.drop_of_length_le (by rw[S.hy];exact Nat.le_refl _),List.map_nil,List.append_nil] at h
  exact h
 |e xs hx=>
  obtain ⟨b,o,hx⟩:=hx
  exact Jx he b o hx
theorem lG (S:Small P gl f α)(hp:Nat→List C→Hp→Option (C×Hp))(a:α)(pre suf:Hp)(h1:OkH pre)(h2:OkH suf):
 S.tab hp f (bkCs (pre.length+ ·) (S.args a)) (pre++(dz pre.length (S.X a)++suf)) =some (ce (kw pre.length S.k suf.length) (S.r a),pre++((S.Y a).map (Option.map (bkCs (kw pre.length S.k suf.length)))++suf)):=
 (ko _ _).trans (mE S.ij (.n a pre suf h1 h2))
theorem Small.never (S:Small P gl f α)(hp:Nat→List C→Hp→Option (C×Hp))(xs:List C)(h:∃b o,C.bp b o∈xs):S.tab hp f xs [] =some (.top,[]):=
 (ko _ _).trans (mE S.ij (.e xs h))
theorem uR (S:Small P gl f α)(hp:Nat→List C→Hp→Option (C×Hp)){g:Nat}(h:g≠f)(xs:List C)(k:Hp):S.tab hp g xs k=hp g xs k:=pU h xs k
end
theorem OkH.nil:OkH []:=fun o h=>by cases h
theorem OkH.cons {o:Option (List C)}{h:Hp}(h1:lF o=true)(h2:OkH h):OkH (o::h):=fun p hp=>by
 rcases List.mem_cons.1 hp with rfl|hp
 . exact h1
 . exact h2 p hp
mutual
theorem TO (r:Nat→Nat):∀c:C,flat c=true→ce r c=c
 | .val _,_=>by simp only[ce]
 | .agg xs,h=>by simp only[flat] at h;simp only[ce,bks_flat r xs h]
 | .tup xs,h=>by simp only[flat] at h;simp only[ce,bks_flat r xs h]
 | .top,h=>by simp[flat] at h
 | .sl _ _ _,h=>by simp[flat] at h
 | .sv _ _ _,h=>by simp[flat] at h
 | .gv _ _ _,h=>by simp[flat] at h
 | .bp _ _,h=>by simp[flat] at h
 | .bt _ _ _,h=>by simp[flat] at h
 | .mp _,h=>by simp[flat] at h
 | .kp _,h=>by simp[flat] at h
 | .fn _ _,h=>by simp[flat] at h
theorem bks_flat (r:Nat→Nat):∀l:List C,flats l=true→bkCs r l=l
 | [],_=>by simp only[bkCs]
 |x::xs,h=>by simp only[flats,Bool.and_eq_true] at h;simp only[bkCs,TO r x h.1,bks_flat r xs h.2]
end
theorem p9 (r:Nat→Nat){α:Type}(f:α→List C)[h:Fla f](l:List α):bkCs r (cl f l) =cl f l:=bks_flat r _ (gH f l)
theorem zk (r:Nat→Nat){α:Type}(f:α→List C)[h:Fla f](q:Rt)(l:List α):ce r (sl f q l) =sl f q l:=by unfold sl;simp only[ce,p9]
end Go.Sx
namespace Go.Sx
open Go.RowKit Go.Proofs
set_option maxRecDepth 100000
set_option maxHeartbeats 8000000
noncomputable def eR (gl:Nat→C)(M:Nat)(pu:Nat→List C→Option C)(hp:Nat→List C→Hp→Option (C×Hp)):Cx:=⟨Tryd.prog,M,gl,pu,hp,fun _=>false,fun _ _=>false,true⟩
section
variable {gl:Nat→C} {M:Nat} {pu:Nat→List C→Option C} {hp:Nat→List C→Hp→Option (C×Hp)}
theorem ad3: (eR gl M pu hp).P=Tryd.prog:=rfl
theorem ad4: (eR gl M pu hp).N=M:=rfl
theorem YA: (eR gl M pu hp).pu=pu:=rfl
theorem YB: (eR gl M pu hp).hp=hp:=rfl
theorem YC (d:Option Nat):nT (eR gl M pu hp) d=false:=by cases d<;>rfl
end
theorem i1 {gl:Nat→C}{M:Nat}{pu:Nat→List C→Option C}{hp:Nat→List C→Hp→Option (C×Hp)}: (eR gl M pu hp).P.follows .mixedOrders=true:=ct (gl:=gl) (M:=M) (pu:=pu)
attribute [go_sem] ad3 ad4 YA YB YC
abbrev TS:=List (List UInt8)×Nat×Bool
def ik (S:List ba)(st:TS):List UInt8×TS:=if S.length≤st.2.1 then (List.replicate 16 0,(st.1,st.2.1,true)) else ((gt S st.2.1).1,(st.1,st.2.1+1,st.2.2))
def nb (x:ab)(st:TS):List UInt8×TS:=(fK x,(st.1++[co 3 [x.1,x.2]],st.2))
def ol (x:List UInt8)(y:List UInt8×TS):List UInt8×TS:=(iQ x y.1,(y.2.1++[co 4 [x,y.1]],y.2.2))
def br (l:List ab)(f:Nat)(S:List ba):Nat→Nat→Nat→TS→List UInt8×TS
 |0,a,b,st=>if b≤f∨f+l.length≤a then ik S st else nb (gt l (a - f)) st
 |d+1,a,b,st=>if b≤f∨f+l.length≤a then ik S st else if b - a≤1 then nb (gt l (a - f)) st
   else ol (br l f S d a (a+aR (b - a)) st).1 (br l f S d (a+aR (b - a)) b (br l f S d a (a+aR (b - a)) st).2)
section
variable {l:List ab} {f:Nat} {S:List ba} {d a b:Nat} {st:TS}
theorem gN (h:b≤f∨f+l.length≤a):br l f S d a b st=ik S st:=by cases d<;>simp only[br,if_pos h]
theorem gO (h:¬ (b≤f∨f+l.length≤a))(h2:b - a≤1):br l f S d a b st=nb (gt l (a - f)) st:=by cases d<;>simp only[br,if_neg h,if_pos h2]
theorem nJ (h:¬ (b≤f∨f+l.length≤a))(h2:¬b - a≤1):br l f S (d+1) a b st=ol (br l f S d a (a+aR (b - a)) st).1 (br l f S d (a+aR (b - a)) b (br l f S d a (a+aR (b - a)) st).2):=by simp only[br,if_neg h,if_neg h2]
theorem Hj (h:S.length≤st.2.1):ik S st= (List.replicate 16 0,(st.1,st.2.1,true)):=if_pos h
theorem t8 (h:¬S.length≤st.2.1):ik S st= ((gt S st.2.1).1,(st.1,st.2.1+1,st.2.2)):=if_neg h
theorem Bb: (ik S st).1.length=16:=by unfold ik;split;rfl;exact (gt S st.2.1).2
end
theorem Bc (l:List ab)(f:Nat)(S:List ba):∀d a b st,(br l f S d a b st).1.length=16
 |0,a,b,st=>by unfold br;split;exact Bb;exact cI _
 |d+1,a,b,st=>by
  unfold br;split
  . exact Bb
  . split
    . exact cI _
    . exact cO _ _
theorem lM (l:List ab)(f:Nat)(S:List ba):∀d a b st,(br l f S d a b st).2.1.length+1≤st.1.length+2 ^ (d+1)∧(br l f S d a b st).2.2.1≤max st.2.1 S.length∧(st.2.1≤(br l f S d a b st).2.2.1)
 |0,a,b,st=>by
  unfold br;split
  . unfold ik;split<;> (simp only[];omega)
  . simp only[nb,List.length_append,List.length_singleton];omega
 |d+1,a,b,st=>by
  have e:2 ^ (d+1+1) =2*2 ^ (d+1):=by rw[Nat.pow_succ];omega
  have hp:=Nat.two_pow_pos (d+1)
  unfold br;split
  . unfold ik;split<;> (simp only[];omega)
  . split
    . simp only[nb,List.length_append,List.length_singleton];omega
    . have h1:=lM l f S d a (a+aR (b - a)) st
      have h2:=lM l f S d (a+aR (b - a)) b (br l f S d a (a+aR (b - a)) st).2
      simp only[ol,List.length_append,List.length_singleton]
      omega
def Bd (l:List ab)(f:Nat)(S:List ba)(n:Nat)(st:TS):List UInt8×TS:=
 if n=0 then (ofT 4 [aA ((0:Nat):Int)],(st.1++[co 4 [aA ((0:Nat):Int)]],st.2))
 else let x:=br l f S 12 0 n st;(ofT 4 [aA ((n:Nat):Int),x.1],(x.2.1++[co 4 [aA ((n:Nat):Int),x.1]],x.2.2))
theorem YD {l:List ab}{f:Nat}{S:List ba}{st:TS}{n:Nat}(h:n=0):Bd l f S n st= (ofT 4 [aA ((n:Nat):Int)],(st.1++[co 4 [aA ((n:Nat):Int)]],st.2)):=by subst h;exact if_pos rfl
theorem Hk {l:List ab}{f:Nat}{S:List ba}{st:TS}{n:Nat}(h:¬n=0):Bd l f S n st= (ofT 4 [aA ((n:Nat):Int),(br l f S 12 0 n st).1],((br l f S 12 0 n st).2.1++[co 4 [aA ((n:Nat):Int),(br l f S 12 0 n st).1]],(br l f S 12 0 n st).2.2)):=if_neg h
def LZ (l:List ab):Prop:=l.length≤5000∧∀i,i< l.length→(gt l i).1.length< 1000000∧(gt l i).2.length< 1000000
theorem OkL.lz {l:List ab}(h:OkL l):LZ l:=⟨by have:=h.1;omega,fun i hi=>by have:=h.2 i hi;omega⟩
theorem pA (T:List (List UInt8))(S:List ba)(u:Nat)(sh:Bool):m6 1 [some [sl sC (.own 1) T,sl dC .no S,.val (nI u),.val (.bool sh)]] =true:=by simp only[oX,sn,go_sem,Bool.and_self]
theorem Be {p:Prop}(e:p:=by intro KZ hZ;simp -implicitDefEqProofs (disch:=first|omega| (simp only[go_sem,lA,lD,lT,dW,hsl] <;>omega) |decide) only[go_sem,↓reduceIte,Nat.reduceEqDiff,reduceCtorEq,Nat.reduceLT,Nat.reduceBEq,Nat.reduceAdd,e65,e64,hy];with_reducible exact hZ):p:=e
theorem YE {p:Prop}(e:p:=by intro KZ hZ;simp -implicitDefEqProofs (disch:=first|omega| (simp only[go_sem,lA,lD,lT,dW,hsl] <;>omega) |decide) only[go_sem,↓reduceIte,Nat.reduceEqDiff,reduceCtorEq,Nat.reduceLT,Nat.reduceBEq,Nat.reduceAdd,e65,e64,hy];with_reducible refine And.intro ?_ hZ;first|exact rfl|decide):p:=e
theorem YF {p:Prop}(e:p:=by simp -implicitDefEqProofs (disch:=first|omega| (simp only[go_sem,lA,lD,lT,dW,hsl] <;>omega) |decide) only[go_sem,↓reduceIte,Nat.reduceEqDiff,reduceCtorEq];all_goals (rfl)):p:=e
theorem aiU {gl:Nat→C}{M:Nat}{pu:Nat→List C→Option C}{hp:Nat→List C→Hp→Option (C×Hp)}(hcx:CxOK (eR gl M pu hp))(h65:∀ (tag:Int) (parts:List (List UInt8)),(co tag parts).length< 1099511627776→pu 65 [.val (.int .i64 tag),sl sC .no parts] =some (sl bC (.own 1) (co tag parts)))(h64:∀b:List UInt8,b.length< 35184372088832→pu 64 [sl bC .no b] =some (.agg (cl bC ((gx b).take 16))))(T:List (List UInt8))(S:List ba)(u:Nat)(sh:Bool)(tag:Int)(parts:List (List UInt8))(hT:T.length≤1000000)(hi: (co tag parts).length< 1099511627776):FC Tryd.prog gl 86 [.bp 0 0,.val (.int .i64 tag),sl sC .no parts] [some [sl sC (.own 1) (T),sl dC .no S,.val (nI (u)),.val (.bool (sh))]] (.agg (cl bC (ofT tag parts))) [some [sl sC (.own 1) (T++[co tag parts]),sl dC .no S,.val (nI (u)),.val (.bool (sh))]]:=by
 replace hcx:=hcx.reN (M:=24)
 refine mI (cx:=eR gl 24 pu hp) (rs:=[.cell 6 29]) rfl Tryd.func86 rfl rfl rfl (by simp only[List.length_cons,List.length_nil];decide) (by simp only[go_sem]) (pA _ _ _ _) ?_
 simp only[bq,go_sem]
 have hy:=True.intro
 have e65:=h65 tag parts hi
 have e64:pu 64 [sl bC .no (co tag parts)] =some (.agg (cl bC (ofT tag parts))):=h64 _ (by omega)
 have hsl: ((gx (co tag parts)).take 16).length=16:=dW tag parts
 refine Tr.w hcx [] _ [none] rfl rfl rfl ?_ Be
 refine Tr.w hcx [1000010] _ [] rfl rfl rfl ?_ Be
 refine Tr.wD hcx i1 [15] _ [] rfl rfl rfl rfl ?_ YE
 refine Tr.w hcx [] _ [] rfl rfl rfl ?_ Be
 exact Tr.ret YF
end Go.Sx
namespace Go.Sx
open Go.RowKit Go.Proofs
set_option maxRecDepth 100000
set_option maxHeartbeats 8000000
theorem ja (p:List UInt8):lF (some (cl bC p)) =true:=by cases p<;>rfl
theorem f8 {p:Prop}(e:p:=by intro KZ hZ;simp -implicitDefEqProofs (disch:=first|omega| (simp only[go_sem,lA,lD,lT,cI,hgl,dW,cO] <;>omega) |decide) only[go_sem,↓reduceIte,Nat.reduceEqDiff,reduceCtorEq,Nat.reduceLT,Nat.reduceBEq,Nat.reduceAdd,ep86,en86,b1,b2,hy];with_reducible exact hZ):p:=e
theorem nK {p:Prop}(e:p:=by intro KZ hZ;simp -implicitDefEqProofs (disch:=first|omega| (simp only[go_sem,lA,lD,lT,cI,hgl,dW,cO] <;>omega) |decide) only[go_sem,↓reduceIte,Nat.reduceEqDiff,reduceCtorEq,Nat.reduceLT,Nat.reduceBEq,Nat.reduceAdd,ep86,en86,b1,b2,hy];with_reducible refine And.intro ?_ hZ;first|exact rfl|decide):p:=e
theorem nL {p:Prop}(e:p:=by simp -implicitDefEqProofs (disch:=first|omega| (simp only[go_sem,lA,lD,lT,cI,hgl,dW,cO] <;>omega) |decide) only[go_sem,↓reduceIte,Nat.reduceEqDiff,reduceCtorEq];all_goals (first| (simp only[hR];done) | (rw[hR];exact ⟨rfl,rfl⟩) | (rw[hR]))):p:=e
theorem PG {gl:Nat→C}{M0:Nat}{pu:Nat→List C→Option C}{hp:Nat→List C→Hp→Option (C×Hp)}(hcx:CxOK (eR gl M0 pu hp))(l:List ab)(f:Nat)(S:List ba)(T:List (List UInt8))(u:Nat)(sh:Bool)(d a b:Nat)(hl:LZ l)(hf:f≤5000)(hS:S.length≤1000000)(hu:u≤S.length)(hT:T.length≤900000 - 2 ^ (d+1))(hd:d≤12)(hab:a< b∧b≤5000∧b - a≤2 ^ d)(hz:b≤f∨f+l.length≤a∨b - a≤1)(hnr:∀ (g:Nat) (xs:List C),noRefs 0 xs=false→pu g xs=none)(hn86:∀xs:List C,(∃b o,C.bp b o∈xs)→hp 86 xs [] =some (.top,[]))(hq86:∀ (suf:Hp) (T:List (List UInt8)) (S:List ba) (u:Nat) (sh:Bool) (tag:Int) (parts:List (List UInt8)),OkH suf→T.length≤1000000→(co tag parts).length< 1099511627776→hp 86 [.bp 0 0,.val (.int .i64 tag),sl sC .no parts] ([some [sl sC (.own 1) (T),sl dC .no S,.val (nI (u)),.val (.bool (sh))]]++suf) =some (.agg (cl bC (ofT tag parts)),[some [sl sC (.own 1) (T++[co tag parts]),sl dC .no S,.val (nI (u)),.val (.bool (sh))]]++suf)):FC Tryd.prog gl 85 [.bp 0 0,sl eC .no l,.val (nI f),.val (nI a),.val (nI b)] [some [sl sC (.own 1) (T),sl dC .no S,.val (nI (u)),.val (.bool (sh))]] (.agg (cl bC (br l f S d a b (T,u,sh)).1)) [some [sl sC (.own 1) ((br l f S d a b (T,u,sh)).2.1),sl dC .no S,.val (nI ((br l f S d a b (T,u,sh)).2.2.1)),.val (.bool ((br l f S d a b (T,u,sh)).2.2.2))]]:=by
 replace hcx:=hcx.reN (M:=104)
 refine mI (cx:=eR gl 104 pu hp) (rs:=[.cell 10 29]) rfl Tryd.func85 rfl rfl rfl (by simp only[List.length_cons,List.length_nil];decide) (by simp only[go_sem]) (pA _ _ _ _) ?_
 simp only[bq,go_sem]
 have b1:=True.intro
 have b2:=True.intro
 have hy:=True.intro
 have hgl:=fun k=>(gt S k).2
 have hll:=hl.1
 have en86:∀ (tag:Nat)(parts:List (List UInt8)),hp 86 [.bp 0 0,.val (nI tag),sl sC .no parts] [] =some (.top,[]):=fun tag parts=>hn86 _ ⟨0,0,by simp⟩
 have ep86:∀ (tag:Nat)(parts:List (List UInt8)),pu 86 [.bp 0 0,.val (nI tag),sl sC .no parts] =none:=fun tag parts=>hnr 86 _ rfl
 refine Tr.w hcx [] _ [none] rfl rfl rfl ?_ f8
 refine aa fun K1 hK1=>?_
 by_cases b1:b≤f
 ·
  refine Tr.w hcx [] [some 14,some 15,some 16,some 17,some 18,some 19,some 20,some 21,some 22,some 23,some 24] [] rfl rfl rfl ?_ f8
  refine bf rfl ?_
  refine aa fun K2 hK2=>?_
  have hR0:=gN (l:=l) (S:=S) (d:=d) (a:=a) (b:=b) (st:=(T,u,sh)) (Or.inl b1)
  refine Tr.wD hcx i1 [] _ [] rfl rfl rfl rfl ?_ nK
  refine Tr.k [0,10,34] ?_
  refine aq rfl (fun hc34=>?_) (fun hc34=>?_)
  ·
   have hR:=hR0.trans (Hj hc34)
   refine Tr.w hcx [] _ [] rfl rfl rfl ?_ f8
   refine Tr.w hcx [] _ [] rfl rfl rfl ?_ f8
   exact Tr.ret nL
  have hR:=hR0.trans (t8 hc34)
  refine Tr.skip ?_
  refine hK2 _ ?_
  refine Tr.w hcx [] _ [] rfl rfl rfl ?_ f8
  refine Tr.wD hcx i1 [] _ [] rfl rfl rfl rfl ?_ nK
  exact Tr.ret nL
 by_cases b2:f+l.length≤a
 ·
  refine Tr.w hcx [] [some 14,some 15,some 16,some 17,some 18,some 19,some 20,some 21,some 22,some 23,some 24] [] rfl rfl rfl ?_ f8
  refine bf rfl ?_
  refine aa fun K3 hK3=>?_
  have hR0:=gN (l:=l) (S:=S) (d:=d) (a:=a) (b:=b) (st:=(T,u,sh)) (Or.inr b2)
  refine Tr.wD hcx i1 [] _ [] rfl rfl rfl rfl ?_ nK
  refine Tr.k [0,10,34] ?_
  refine aq rfl (fun hc34=>?_) (fun hc34=>?_)
  ·
   have hR:=hR0.trans (Hj hc34)
   refine Tr.w hcx [] _ [] rfl rfl rfl ?_ f8
   refine Tr.w hcx [] _ [] rfl rfl rfl ?_ f8
   exact Tr.ret nL
  have hR:=hR0.trans (t8 hc34)
  refine Tr.skip ?_
  refine hK3 _ ?_
  refine Tr.w hcx [] _ [] rfl rfl rfl ?_ f8
  refine Tr.wD hcx i1 [] _ [] rfl rfl rfl rfl ?_ nK
  exact Tr.ret nL
 refine Tr.w hcx [] [some 14,some 15,some 16,some 17,some 18,some 19,some 20,some 21,some 22,some 23,some 24] [] rfl rfl rfl ?_ f8
 refine bc rfl ?_
 refine Tr.skip ?_
 refine hK1 _ ?_
 refine aa fun K4 hK4=>?_
 have h61:b - a=1:=by omega
 have hR:=gO (l:=l) (f:=f) (S:=S) (d:=d) (st:=(T,u,sh)) (fun h=>h.elim b1 b2) (show b - a≤1 by omega)
 have hlb:=hl.2 (a - f) (by omega)
 have e86:=hq86 [some (cl bC (List.replicate 16 0))] T S u sh 3 [(gt l (a - f)).1,(gt l (a - f)).2] (OkH.cons (by rw[ja]) OkH.nil) (by omega) (lV 3 _ _ (by omega) (by omega))
 change hp 86 [C.bp 0 0,.val (nI 3),sl sC .no _] _=some (C.agg (cl bC (fK (gt l (a - f)))),_) at e86
 simp only[List.cons_append,List.nil_append] at e86
 have hy:= @h61
 refine Tr.w hcx [] _ [] rfl rfl rfl ?_ f8
 refine bf rfl ?_
 have hy:=And.intro @e86 @oh
 refine Tr.wD hcx i1 [] _ [] rfl rfl rfl rfl ?_ nK
 refine Tr.k [10] ?_
 exact Tr.ret nL
theorem lN {p:Prop}(e:p:=by intro KZ hZ;simp -implicitDefEqProofs (disch:=first|omega| (simp only[go_sem,lA,lD,lT,cI,hgl,dW,cO,hx1,hx2] <;>omega) |decide) only[go_sem,↓reduceIte,Nat.reduceEqDiff,reduceCtorEq,Nat.reduceLT,Nat.reduceBEq,Nat.reduceAdd,ep86,en86,ep85,en85,hy];with_reducible exact hZ):p:=e
theorem Q0 {p:Prop}(e:p:=by intro KZ hZ;simp -implicitDefEqProofs (disch:=first|omega| (simp only[go_sem,lA,lD,lT,cI,hgl,dW,cO,hx1,hx2] <;>omega) |decide) only[go_sem,↓reduceIte,Nat.reduceEqDiff,reduceCtorEq,Nat.reduceLT,Nat.reduceBEq,Nat.reduceAdd,ep86,en86,ep85,en85,hy];with_reducible refine And.intro ?_ hZ;first|exact rfl|decide):p:=e
theorem Q2 {p:Prop}(e:p:=by simp -implicitDefEqProofs (disch:=first|omega| (simp only[go_sem,lA,lD,lT,cI,hgl,dW,cO,hx1,hx2] <;>omega) |decide) only[go_sem,↓reduceIte,Nat.reduceEqDiff,reduceCtorEq];all_goals (first| (simp only[hR];done) | (rw[hR];exact ⟨rfl,rfl⟩) | (rw[hR]))):p:=e
theorem ad5 {gl:Nat→C}{M0:Nat}{pu:Nat→List C→Option C}{hp:Nat→List C→Hp→Option (C×Hp)}(hcx:CxOK (eR gl M0 pu hp))(l:List ab)(f:Nat)(S:List ba)(T:List (List UInt8))(u:Nat)(sh:Bool)(d a b:Nat)(hl:LZ l)(hf:f≤5000)(hS:S.length≤1000000)(hu:u≤S.length)(hT:T.length≤900000 - 2 ^ ((d+1)+1))(hd: (d+1)≤12)(hab:a< b∧b≤5000∧b - a≤2 ^ (d+1))(hq85:∀ (suf:Hp) (T:List (List UInt8)) (u:Nat) (sh:Bool) (a b:Nat),OkH suf→T.length≤900000 - 2 ^ (d+1)→u≤S.length→a< b∧b - a≤2 ^ d∧b≤5000→hp 85 [.bp 0 0,sl eC .no l,.val (nI f),.val (nI a),.val (nI b)] ([some [sl sC (.own 1) (T),sl dC .no S,.val (nI (u)),.val (.bool (sh))]]++suf) =some (.agg (cl bC (br l f S d a b (T,u,sh)).1),[some [sl sC (.own 1) ((br l f S d a b (T,u,sh)).2.1),sl dC .no S,.val (nI ((br l f S d a b (T,u,sh)).2.2.1)),.val (.bool ((br l f S d a b (T,u,sh)).2.2.2))]]++suf))(hz1:¬b≤f)(hz2:¬f+l.length≤a)(hz3:¬b - a≤1)(hnr:∀ (g:Nat) (xs:List C),noRefs 0 xs=false→pu g xs=none)(hn86:∀xs:List C,(∃b o,C.bp b o∈xs)→hp 86 xs [] =some (.top,[]))(hq86:∀ (suf:Hp) (T:List (List UInt8)) (S:List ba) (u:Nat) (sh:Bool) (tag:Int) (parts:List (List UInt8)),OkH suf→T.length≤1000000→(co tag parts).length< 1099511627776→hp 86 [.bp 0 0,.val (.int .i64 tag),sl sC .no parts] ([some [sl sC (.own 1) (T),sl dC .no S,.val (nI (u)),.val (.bool (sh))]]++suf) =some (.agg (cl bC (ofT tag parts)),[some [sl sC (.own 1) (T++[co tag parts]),sl dC .no S,.val (nI (u)),.val (.bool (sh))]]++suf))(hn85:∀xs:List C,(∃b o,C.bp b o∈xs)→hp 85 xs [] =some (.top,[]))(h84:∀h:List UInt8,h.length=16→pu 84 [.agg (cl bC h)] =some (.val (str h)))(h106:∀n:Nat,n≤4611686018427387000→pu 106 [.val (nI n)] =some (.val (nI (aR n)))):FC Tryd.prog gl 85 [.bp 0 0,sl eC .no l,.val (nI f),.val (nI a),.val (nI b)] [some [sl sC (.own 1) (T),sl dC .no S,.val (nI (u)),.val (.bool (sh))]] (.agg (cl bC (br l f S (d+1) a b (T,u,sh)).1)) [some [sl sC (.own 1) ((br l f S (d+1) a b (T,u,sh)).2.1),sl dC .no S,.val (nI ((br l f S (d+1) a b (T,u,sh)).2.2.1)),.val (.bool ((br l f S (d+1) a b (T,u,sh)).2.2.2))]]:=by
 replace hcx:=hcx.reN (M:=104)
 refine mI (cx:=eR gl 104 pu hp) (rs:=[.cell 10 29]) rfl Tryd.func85 rfl rfl rfl (by simp only[List.length_cons,List.length_nil];decide) (by simp only[go_sem]) (pA _ _ _ _) ?_
 simp only[bq,go_sem]
 have hy:=True.intro
 have hgl:=fun k=>(gt S k).2
 have hll:=hl.1
 have en86:∀ (tag:Nat)(parts:List (List UInt8)),hp 86 [.bp 0 0,.val (nI tag),sl sC .no parts] [] =some (.top,[]):=fun tag parts=>hn86 _ ⟨0,0,by simp⟩
 have ep86:∀ (tag:Nat)(parts:List (List UInt8)),pu 86 [.bp 0 0,.val (nI tag),sl sC .no parts] =none:=fun tag parts=>hnr 86 _ rfl
 have en85:∀x y:Nat,hp 85 [.bp 0 0,sl eC .no l,.val (nI f),.val (nI x),.val (nI y)] [] =some (.top,[]):=fun x y=>hn85 _ ⟨0,0,by simp⟩
 have ep85:∀x y:Nat,pu 85 [.bp 0 0,sl eC .no l,.val (nI f),.val (nI x),.val (nI y)] =none:=fun x y=>hnr 85 _ rfl
 have b1:=hz1
 have b2:=hz2
 have h61: (b - a=1) =False:=eq_false (by omega)
 have hx1:=True.intro
 have hx2:=True.intro
 refine Tr.w hcx [] _ [none] rfl rfl rfl ?_ lN
 refine aa fun K1 hK1=>?_
 have hy:=And.intro @b1 @b2
 refine Tr.w hcx [] [some 14,some 15,some 16,some 17,some 18,some 19,some 20,some 21,some 22,some 23,some 24] [] rfl rfl rfl ?_ lN
 refine bc rfl ?_
 refine Tr.skip ?_
 refine hK1 _ ?_
 refine aa fun K2 hK2=>?_
 have hy:= @h61
 refine Tr.w hcx [] _ [] rfl rfl rfl ?_ lN
 refine bc rfl ?_
 refine Tr.skip ?_
 refine hK2 _ ?_
 refine Tr.k [0,1,2,3,4,10] ?_
 have e106:=h106 (b - a) (by omega)
 have hh:=gT (n:=b - a) (by omega)
 have hh2:=fg (by omega) hab.2.2
 have hp2:2 ^ (d+1+1) =2*2 ^ (d+1):=by rw[Nat.pow_succ];omega
 have hp3:2 ^ (d+1)≤2 ^ 12:=Nat.pow_le_pow_right (by omega) hd
 have hB1:=lM l f S d a (a+aR (b - a)) (T,u,sh)
 dsimp only at hB1
 have e1:=hq85 [some (cl bC (List.replicate 16 0)),none] T u sh a (a+aR (b - a)) (OkH.cons (ja _) (OkH.cons rfl OkH.nil)) (by omega) hu (by omega)
 obtain ⟨X,hX⟩:∃X,X=br l f S d a (a+aR (b - a)) (T,u,sh):=⟨_,rfl⟩
 have hXl:X.1.length=16:=by rw[hX];exact Bc _ _ _ _ _ _ _
 rw[←hX] at e1 hB1
 have hx1:=hXl
 have e2:=hq85 [some (cl bC (List.replicate 16 0)),some (cl bC X.1),none] X.2.1 X.2.2.1 X.2.2.2 (a+aR (b - a)) b (OkH.cons (ja _) (OkH.cons (ja _) (OkH.cons rfl OkH.nil))) (by omega) (by omega) (by omega)
 obtain ⟨Y,hY⟩:∃Y,Y=br l f S d (a+aR (b - a)) b X.2:=⟨_,rfl⟩
 have hYl:Y.1.length=16:=by rw[hY];exact Bc _ _ _ _ _ _ _
 have hB2:=lM l f S d (a+aR (b - a)) b X.2
 have eY:br l f S d (a+aR (b - a)) b (X.2.1,X.2.2.1,X.2.2.2) =Y:=hY.symm
 rw[←hY] at hB2
 rw[eY] at e2
 have hx2:=hYl
 have e84a:=h84 X.1 hXl
 have e84b:=h84 Y.1 hYl
 have e86:=hq86 [some (cl bC (List.replicate 16 0)),some (cl bC X.1),some (cl bC Y.1)] Y.2.1 S Y.2.2.1 Y.2.2.2 4 [X.1,Y.1] (OkH.cons (ja _) (OkH.cons (ja _) (OkH.cons (ja _) OkH.nil))) (by omega) (lV 4 _ _ (by omega) (by omega))
 change hp 86 [C.bp 0 0,.val (nI 4),sl sC .no _] _=some (C.agg (cl bC (iQ X.1 Y.1)),_) at e86
 simp only[List.cons_append,List.nil_append] at e1 e2 e86
 have hR:=nJ (l:=l) (f:=f) (S:=S) (d:=d) (st:=(T,u,sh)) (fun h=>h.elim b1 b2) hz3
 rw[←hX,←hY,ol] at hR
 have hy:= @e106
 refine Tr.w hcx [1000084] _ [] rfl rfl rfl ?_ lN
 have hy:= @e1
 refine Tr.w hcx [] _ [none] rfl rfl rfl ?_ lN
 refine Tr.k [0,1,2,4,10,11,12] ?_
 have hy:= @e2
 refine Tr.w hcx [] _ [none] rfl rfl rfl ?_ lN
 have hy:=And.intro @e84a (And.intro @e84b (And.intro @oh @e86))
 refine Tr.wD hcx i1 [] _ [] rfl rfl rfl rfl ?_ Q0
 exact Tr.ret Q2
end Go.Sx
namespace Go.Sx
open Go.RowKit Go.Proofs
set_option maxRecDepth 100000
set_option maxHeartbeats 8000000
theorem sX (l:List ab)(S:List ba):∀d a b st,a< b→b≤l.length→(br l 0 S d a b st).1= (if b - a≤2 ^ d then du l d a b else (br l 0 S d a b st).1)
 |0,a,b,st,h1,h2=>by
  split
  . rename_i h
    rw[gO (by omega) (by simpa using h)];rfl
  . rfl
 |d+1,a,b,st,h1,h2=>by
  split
  . rename_i h
    by_cases e:b - a≤1
    . rw[gO (by omega) e,t6 e];rfl
    . have hh:=gT (n:=b - a) (by omega)
      have hh2:=fg (by omega) h
      rw[nJ (by omega) e,A9 e,ol]
      have g1:=sX l S d a (a+aR (b - a)) st (by omega) (by omega)
      have g2:=sX l S d (a+aR (b - a)) b (br l 0 S d a (a+aR (b - a)) st).2 (by omega) (by omega)
      rw[if_pos (by omega)] at g1 g2
      rw[g1,g2]
  . rfl
theorem YG {l:List ab}{S:List ba}{d a b:Nat}{st:TS}(h:a< b∧b≤l.length∧b - a≤2 ^ d): (br l 0 S d a b st).1=du l d a b:=by
 rw[sX l S d a b st h.1 h.2.1,if_pos h.2.2]
end Go.Sx
namespace Go.Sx
open Go.RowKit Go.Proofs
theorem F9:∀a b:List UInt8,Lib.compareBytes a b=fF a b
 | [],[] =>by simp[Lib.compareBytes,fF,jt]
 | [],y::b=>by simp[Lib.compareBytes,fF,tB]
 |x::a,[] =>by simp[Lib.compareBytes,fF,jt]
 |x::a,y::b=>by
  have ih:=F9 a b
  unfold Lib.compareBytes fF
  rw[nt]
  by_cases h:x< y
  . rw[if_pos h,if_pos h];rfl
  . by_cases h':y< x
    . have:¬ (x::a=y::b):=fun e=>by injection e with e _;subst e;exact h h'
      rw[if_neg h,if_pos h',if_neg h,if_pos h',if_neg this];rfl
    . have e:x=y:=by
       apply UInt8.toNat_inj.1;rw[UInt8.lt_iff_toNat_lt] at h h';omega
      subst e
      rw[if_neg h,if_neg h,if_neg h,if_neg h,ih,fF]
      simp
theorem af4 {gl:Nat→C}(a b:List UInt8):FC Tryd.prog gl 90 [.val (str a),.val (str b)] [] (.val (.int .i64 (fF a b))) []:=by
 refine FD (vals:=[str a,str b]) ⟨_,Tryd.func90,rfl,rfl⟩ fun w=>?_
 refine (Tryd.strings_Compare ⟨a.toArray⟩ ⟨b.toArray⟩ w).mono ?_
 rintro e w' ⟨rfl,rfl⟩
 refine ⟨?_,Below.refl _ _⟩
 simp[F9]
end Go.Sx
namespace Go.Sx
open Go.RowKit Go.Proofs
set_option maxRecDepth 100000
set_option maxHeartbeats 8000000
def Srt (l:List ab):Prop:= ∀i j,i< j→j< l.length→bl (gt l i).1 (gt l j).1=true
theorem u5 {l:List ab}:∀ {n i:Nat},fL l n=true→0< i→i< n→bl (gt l (i - 1)).1 (gt l i).1=true
 |0,i,h,h1,h2=>by omega
 |n+1,i,h,h1,h2=>by
  simp only[fL,Bool.and_eq_true,Bool.or_eq_true,decide_eq_true_eq] at h
  by_cases e:i=n
  . subst e;exact h.2.resolve_left (by omega)
  . exact u5 h.1 h1 (by omega)
theorem Srt.of {l:List ab}(h:fL l l.length=true):Srt l:=fun i j hij hj=>by
 obtain ⟨k,rfl⟩:∃k,j=i+1+k:=⟨j - (i+1),by omega⟩
 induction k with
 |zero=>have:=u5 h (i:=i+1) (by omega) hj;simpa using this
 |succ k ih=>
  have h1:=ih (by omega) (by omega)
  have h2:=u5 h (i:=i+1+(k+1)) (by omega) hj
  rw[show i+1+(k+1) - 1=i+1+k by omega] at h2
  exact j7 h1 h2
theorem j8 {l:List ab}(h:cb l=0):Srt l:=by
 apply Srt.of
 unfold cb at h
 split at h
 . cases h
 . split at h
   . assumption
   . cases h
theorem Srt.take {l:List ab}(h:Srt l):∀n,n≤l.length→∀k,(∀x,x< n→bl (gt l x).1 k=true)→gB l k n=n
 |0,_,k,_=>rfl
 |n+1,hn,k,hk=>by rw[y6 (by omega) (hk n (by omega)),Srt.take h n (by omega) k (fun x hx=>hk x (by omega))]
theorem sT {l:List ab}{k:List UInt8}{i:Nat}:∀d,i+d≤l.length→(∀x,i≤x→x< l.length→bl (gt l x).1 k=false)→gB l k (i+d) =gB l k i
 |0,_,_=>rfl
 |d+1,h,h2=>by rw[←Nat.add_assoc,y7 (by omega) (h2 _ (by omega) (by omega)),sT d (by omega) h2]
theorem CN {l:List ab}{k:List UInt8}{i:Nat}(hs:Srt l)(hi:i≤l.length)(h1:∀x,x< i→bl (gt l x).1 k=true)(h2:∀x,i≤x→x< l.length→bl (gt l x).1 k=false):bg l k=i:=by
 obtain ⟨d,hd⟩:∃d,l.length=i+d:=⟨l.length - i,by omega⟩
 unfold bg
 rw[hd,sT d (by omega) h2,Srt.take hs i hi k h1]
def zp (l:List ab)(k:List UInt8):Bool:=decide (bg l k< l.length∧(gt l (bg l k)).1=k)
theorem CO (a b:List UInt8): (fF a b< ((0:Nat):Int)) = (bl a b=true):=by
 unfold fF;by_cases h:bl a b=true
 . rw[if_pos h];simp[h]
 . rw[if_neg h];split<;>simp[h]
theorem CP (a b:List UInt8): (fF a b=0) = (a=b):=by
 unfold fF;by_cases h:bl a b=true
 . rw[if_pos h]
   have:¬a=b:=fun e=>by subst e;rw[zn] at h;cases h
   simp[this]
 . rw[if_neg h];by_cases e:a=b<;>simp[e]
theorem CQ (a b:List UInt8): (fF a b= ((0:Nat):Int)) = (a=b):=CP a b
theorem UI {l:List ab}{k:List UInt8}{i:Nat}(h:bg l k=i)(b:Bool)(hb:b=decide (i< l.length∧(gt l i).1=k)):b=zp l k:=by subst h;exact hb
theorem abf {l:List ab}{k:List UInt8}{h:Nat}(hs:Srt l)(hb:bl (gt l h).1 k=true)(hl:h< l.length):∀x,x< h+1→bl (gt l x).1 k=true:=fun x hx=>by
 by_cases e:x=h
 . subst e;exact hb
 . exact j7 (hs x h (by omega) hl) hb
theorem NE {l:List ab}{k:List UInt8}{h:Nat}(hs:Srt l)(hb:bl (gt l h).1 k=false):∀x,h≤x→x< l.length→bl (gt l x).1 k=false:=fun x hx hl=>by
 by_cases e:x=h
 . subst e;exact hb
 . have h1:=hs h x (by omega) hl
   rw[Bool.eq_false_iff];intro h2
   rw[j7 h1 h2] at hb;cases hb
theorem UJ (n:Nat):n>>>1=n / 2:=by rw[Nat.shiftRight_eq_div_pow]
theorem F7 {p:Prop}(e:p:=by intro KZ hZ;simp -implicitDefEqProofs (disch:=first|omega| (simp only[go_sem,lA,lD,lT] <;>omega) |decide) only[go_sem,↓reduceIte,Nat.reduceEqDiff,reduceCtorEq,Nat.reduceLT,Nat.reduceBEq,Nat.reduceAdd,h90,hy];with_reducible exact hZ):p:=e
theorem UK {p:Prop}(e:p:=by simp -implicitDefEqProofs (disch:=first|omega| (simp only[go_sem,lA,lD,lT] <;>omega) |decide) only[go_sem,↓reduceIte,Nat.reduceEqDiff,reduceCtorEq];all_goals (rfl)):p:=e
theorem af1 {gl:Nat→C}{M:Nat}{pu:Nat→List C→Option C}(hcx:CxOK (af gl M pu))(h90:∀a b:List UInt8,pu 90 [.val (str a),.val (str b)] =some (.val (.int .i64 (fF a b))))(x:ab)(k:List UInt8):FC Tryd.prog gl 89 [.agg (eC x),.val (str k)] [] (.val (.int .i64 (fF x.1 k))) []:=by
 replace hcx:=hcx.reN (M:=9)
 refine aB (cx:=af gl 9 pu) (rs:=[.tmp 4]) rfl Tryd.func89 rfl rfl rfl (by simp only[List.length_cons,List.length_nil];decide) (by simp only[go_sem]) ?_
 simp only[bq,go_sem]
 have hy:=True.intro
 refine Tr.w hcx [] _ [none] rfl rfl rfl ?_ F7
 refine Tr.w hcx [1000008] _ [] rfl rfl rfl ?_ F7
 exact Tr.ret UK
theorem i3 {p:Prop}(e:p:=by intro KZ hZ;simp -implicitDefEqProofs (disch:=first|omega| (simp only[go_sem,lA,lD,lT] <;>omega) |decide) only[go_sem,↓reduceIte,Nat.reduceEqDiff,reduceCtorEq,Nat.reduceLT,Nat.reduceBEq,Nat.reduceAdd,h89,UJ,b1,b2,hy];with_reducible exact hZ):p:=e
theorem F8 {p:Prop}(e:p:=by simp -implicitDefEqProofs (disch:=first|omega| (simp only[go_sem,lA,lD,lT] <;>omega) |decide) only[go_sem,↓reduceIte,Nat.reduceEqDiff,reduceCtorEq];all_goals (all_goals (rw[←UI hf _ rfl];simp[hf,b2,CP]))):p:=e
theorem af2 {gl:Nat→C}{M:Nat}{pu:Nat→List C→Option C}(hcx:CxOK (af gl M pu))(h89:∀ (x:ab) (k:List UInt8),pu 89 [.agg (eC x),.val (str k)] =some (.val (.int .i64 (fF x.1 k))))(l:List ab)(k:List UInt8)(hs:Srt l)(hl:l.length≤1000000):FC Tryd.prog gl 88 [sl eC .no l,.val (str k),.fn 89 []] [] (.tup [.val (nI (bg l k)),.val (.bool (zp l k))]) []:=by
 replace hcx:=hcx.reN (M:=49)
 refine aB (cx:=af gl 49 pu) (rs:=[.tmp 6,.tmp 7]) rfl Tryd.func88 rfl rfl rfl (by simp only[List.length_cons,List.length_nil];decide) (by simp only[go_sem]) ?_
 simp only[bq,go_sem]
 have b1:=True.intro
 have b2:=True.intro
 have hy:=True.intro
 refine Tr.w hcx [] _ [] rfl rfl rfl ?_ i3
 refine Tr.w hcx [1000013] _ [] rfl rfl rfl ?_ i3
 refine Tr.w hcx [1000014] _ [] rfl rfl rfl ?_ i3
 refine Tr.k [0,1,2,8,9,10] ?_
 refine aa fun K1 hK1=>?_
 refine Tr.blk ?_
 refine aN (α:=Nat×Nat) (fun a=>[(0,?v0_1),(1,?v1_1),(2,?v2_1),(8,?v8_1),(9,.val (nI a.1)),(10,.val (nI a.2))]) (fun a=>?h_1) (fun a=>a.1≤a.2∧a.2≤l.length∧(∀x,x< a.1→bl (gt l x).1 k=true)∧(∀x,a.2≤x→x< l.length→bl (gt l x).1 k=false)) (fun a=>a.2 - a.1) ((0,l.length)) ⟨Nat.zero_le _,Nat.le_refl _,fun x hx=>absurd hx (Nat.not_lt_zero x),fun x h1 h2=>by omega⟩ ?le_1 ?hh_1 ?bd_1
 case hh_1=>exact rfl
 case le_1=>exact LT
 rintro ⟨i,j⟩ ⟨hi,hj,hlo,hhi⟩
 simp only[] at hi hj hlo hhi
 have hh2: (i+j) / 2*2≤i+j:=by omega
 have hh3:i+j< (i+j) / 2*2+2:=by omega
 obtain ⟨h,hh⟩:∃h,h= (i+j) / 2:=⟨_,rfl⟩
 rw[←hh] at hh2 hh3
 refine aa fun K2 hK2=>?_
 refine Tr.w hcx [] _ [] rfl rfl rfl ?_ i3
 refine aq rfl (fun hc17=>?_) (fun hc17=>?_)
 ·
  refine Tr.skip ?_
  refine hK2 _ ?_
  refine Tr.blk ?_
  refine aa fun K3 hK3=>?_
  refine Tr.rg hcx [1000023] _ [] rfl rfl rfl ?_
  simp -implicitDefEqProofs (disch:=first|omega| (simp only[go_sem,lA,lD,lT] <;>omega) |decide) only[go_sem,↓reduceIte,Nat.reduceEqDiff,reduceCtorEq,Nat.reduceLT,Nat.reduceBEq,Nat.reduceAdd,h89,UJ,←hh]
  refine hK3 _ ?_
  by_cases b1:bl (gt l h).1 k=true
  ·
   have c1: (fF (gt l h).1 k< ((0:Nat):Int)) =True:=by rw[CO,b1];simp
   have hy:= @c1
   refine Tr.w hcx [] _ [] rfl rfl rfl ?_ i3
   refine bf rfl ?_
   have hy:=True.intro
   refine Tr.v hcx [1000033] _ [] rfl rfl rfl ?_ i3
   exact ⟨(h+1,j),⟨⟨by simp only[];omega,hj,abf hs b1 (by omega),hhi⟩,O1⟩,LT,rfl⟩
  have c1: (fF (gt l h).1 k< ((0:Nat):Int)) =False:=by rw[CO];simpa using b1
  replace b1:=Bool.eq_false_iff.2 b1
  have hy:= @c1
  refine Tr.w hcx [] _ [] rfl rfl rfl ?_ i3
  refine bc rfl ?_
  have hy:=True.intro
  refine Tr.v hcx [1000034] _ [] rfl rfl rfl ?_ i3
  exact ⟨(i,h),⟨⟨by simp only[];omega,by simp only[];omega,hlo,NE hs b1⟩,O1⟩,LT,rfl⟩
 refine Tr.exit ?_
 refine hK1 _ ?_
 by_cases b2:i< l.length
 ·
  have hij:i=j:=by omega
  have hf:=CN hs (show i≤l.length by omega) hlo (by rw[hij];exact hhi)
  have hy:= @CQ
  refine Tr.w hcx [1000035,1000048] [some 35,some 36,some 37,some 38,some 39,some 40,some 41,some 42,some 43,some 44,some 45,some 46,some 47,some 48,some 6,some 7] [] rfl rfl rfl ?_ i3
  exact Tr.ret F8
 have hij:i=j:=by omega
 have hf:=CN hs (show i≤l.length by omega) hlo (by rw[hij];exact hhi)
 have hy:= @CQ
 refine Tr.w hcx [1000035,1000048] [some 35,some 36,some 37,some 38,some 39,some 40,some 41,some 42,some 43,some 44,some 45,some 46,some 47,some 48,some 6,some 7] [] rfl rfl rfl ?_ i3
 exact Tr.ret F8
theorem zq {p:Prop}(e:p:=by intro KZ hZ;simp -implicitDefEqProofs (disch:=first|omega| (simp only[go_sem,lA,lD,lT] <;>omega) |decide) only[go_sem,↓reduceIte,Nat.reduceEqDiff,reduceCtorEq,Nat.reduceLT,Nat.reduceBEq,Nat.reduceAdd,e88,hy];with_reducible exact hZ):p:=e
theorem UL {p:Prop}(e:p:=by simp -implicitDefEqProofs (disch:=first|omega| (simp only[go_sem,lA,lD,lT] <;>omega) |decide) only[go_sem,↓reduceIte,Nat.reduceEqDiff,reduceCtorEq];all_goals (rfl)):p:=e
theorem af3 {gl:Nat→C}{M:Nat}{pu:Nat→List C→Option C}(hcx:CxOK (af gl M pu))(h88:∀ (l:List ab) (k:List UInt8),Srt l→l.length≤1000000→pu 88 [sl eC .no l,.val (str k),.fn 89 []] =some (.tup [.val (nI (bg l k)),.val (.bool (zp l k))]))(l:List ab)(k:List UInt8)(hs:Srt l)(hl:l.length≤1000000):FC Tryd.prog gl 56 [sl eC .no l,.val (str k)] [] (.val (nI (bg l k))) []:=by
 replace hcx:=hcx.reN (M:=14)
 refine aB (cx:=af gl 14 pu) (rs:=[.tmp 4]) rfl Tryd.func56 rfl rfl rfl (by simp only[List.length_cons,List.length_nil];decide) (by simp only[go_sem]) ?_
 simp only[bq,go_sem]
 have hy:=True.intro
 have e88:=h88 l k hs hl
 refine Tr.w hcx [] _ [] rfl rfl rfl ?_ zq
 refine Tr.w hcx [1000011,1000012] _ [] rfl rfl rfl ?_ zq
 refine Tr.w hcx [1000013] _ [] rfl rfl rfl ?_ zq
 exact Tr.ret UL
end Go.Sx
namespace Go.Sx
open Go.RowKit
section
variable {cx:Cx} {Q:Ex→St→Prop} {e:List (Nat×C)} {h:Hp} {c:Code}
theorem oY (hcx:CxOK cx)(ρ:List Nat){e':List (Nat×C)}{h':Hp}(H:Tr cx 0 c ⟨A e',h'⟩ Q)
 (hρ:tk 0 ρ:=by exact ⟨by decide,by decide,fun j hj=>absurd hj (Nat.not_lt_zero j)⟩)
 (E:∀K:List (Nat×C)→Hp→Prop,K e' h'→K (jY (bA ρ) e) (jD ρ h):=by
   intro KZ hZ
   simp -implicitDefEqProofs only[mF,la,B9,jl,fT,e8,jj,jk,Option.map_some,Option.map_none,gm,ji,fS,e7,g4,gj,gS,jd,je,jf,g5,jg,eT,eU,eV,eW,eX,eZ,gZ,fP,↓reduceIte,Nat.reduceEqDiff,reduceCtorEq,Nat.reduceAdd,Nat.zero_add,Nat.one_ne_zero,Nat.zero_ne_one,jh,jm,fa,fb,jn,fe,ff]
   with_reducible exact hZ):Tr cx 0 c ⟨A e,h⟩ Q:=
 Jm hcx ρ hρ (E (fun x y=>Tr cx 0 c ⟨A x,y⟩ Q) H)
end
end Go.Sx
