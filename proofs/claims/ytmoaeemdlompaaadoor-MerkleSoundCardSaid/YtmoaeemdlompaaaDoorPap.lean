/-
   And what follows.
-/
import Derived.Test.YtmoaeemdlompaaaDoorPan
import Derived.Test.YtmoaeemdlompaaaDoorPao
import Derived.Test.YtmoaeemdlompaaaDoorPaa
set_option linter.unusedSimpArgs false
set_option linter.unusedVariables false
namespace Go.Sx
open Go.RowKit
def dm (f:Nat) (pre:List C) :Nat→C
 |0=> .top
 |d+1=> .kp [.fn f (pre++[dm f pre d])]
theorem Oi (f:Nat) (pre:List C) (d:Nat) : (dm f pre d).noR=dm f pre d:=by cases d<;>rfl
theorem sP (k:Nat) (x:C) : ∀l:List C,noRefs k (l++[x]) = (noRefs k l && aG k x)
 | [] =>by simp[noRefs]
 |y::l=>by simp only[List.cons_append,noRefs,sP k x l,Bool.and_assoc]
theorem oI (k f:Nat) (pre:List C) (h:noRefs k pre=true) : ∀d,aG k (dm f pre d) =true
 |0=>rfl
 |d+1=>by simp only[dm,aG,noRefs,sP,h,oI k f pre h d,Bool.and_self]
theorem yk (r:Nat→Nat) (x:C) : ∀l:List C,bkCs r (l++[x]) =bkCs r l++[c7 r x]
 | [] =>by simp[bkCs]
 |y::l=>by simp only[List.cons_append,bkCs,yk r x l]
theorem yl (r:Nat→Nat) (f:Nat) (pre:List C) : ∀d,c7 r (dm f pre d) =dm f (bkCs r pre) d
 |0=>by simp only[dm,c7]
 |d+1=>by simp only[dm,c7,bkCs,yk,yl r f pre d]
theorem ym (ρ:List Nat) (x:C) : ∀l:List C,mvCs ρ (l++[x]) =mvCs ρ l++[cC ρ x]
 | [] =>by simp[mvCs]
 |y::l=>by simp only[List.cons_append,mvCs,ym ρ x l]
theorem yn (ρ:List Nat) (f:Nat) (pre:List C) : ∀d,cC ρ (dm f pre d) =dm f (mvCs ρ pre) d
 |0=>by simp only[dm,cC]
 |d+1=>by simp only[dm,cC,mvCs,ym,yn ρ f pre d]
theorem rq (ok:Nat→Bool) (b:Nat) (ys:List C) (x:C) : ∀l:List C,fzCs ok b ys (l++[x]) =fzCs ok b ys l++[cz ok b ys x]
 | [] =>by simp[fzCs]
 |y::l=>by simp only[List.cons_append,fzCs,rq ok b ys x l]
theorem yp (ok:Nat→Bool) (x:C) : ∀l:List C,scrs ok (l++[x]) =scrs ok l++[d9 ok x]
 | [] =>by simp[scrs]
 |y::l=>by simp only[List.cons_append,scrs,yp ok x l]
theorem sQ (ok:Nat→Bool) (b:Nat) (ys:List C) (f:Nat) (pre:List C) : ∀d,cz ok b ys (dm f pre d) =dm f (fzCs ok b ys pre) d
 |0=>by simp only[dm,cz]
 |d+1=>by simp only[dm,cz,fzCs,rq,sQ ok b ys f pre d]
theorem uQ (h:Hp) (b f:Nat) (pre:List C) (h1:scrs (dH h b) pre=pre) (h2: ∀ys,fzCs (dH h b) b ys pre=pre) : ∀m,kF h b [.fn f (pre++[.bp b 0])] m= [.fn f (pre++[dm f pre m])]
 |0=>by
  have e:dH h b b=false:=by simp[dH]
  simp only[kF,fzY,scrs,d9,yp,h1,e,Bool.false_eq_true,if_false];rfl
 |m+1=>by
  simp only[kF,fzCs,cz,rq,h2,uQ h b f pre h1 h2 m,if_true,List.drop_zero,List.map_cons,List.map_nil]
  rfl
section
variable (ok:Nat→Bool) (b:Nat) (ys:List C)
theorem sR (b' o n:Nat) :cz ok b ys (.sv b' o n) =if b'=b then (if o+n≤ys.length then .sl .no n ((ys.drop o).take n) else .top) else if ok b'=true then .sv b' o n else .top:=by simp only[cz]
theorem sS (b' o:Nat) :cz ok b ys (.bp b' o) =if b'=b then .kp (ys.drop o) else if ok b'=true then .bp b' o else .top:=by simp only[cz]
theorem sT (b':Nat) :cz ok b ys (.mp b') =if b'=b then .top else if ok b'=true then .mp b' else .top:=by simp only[cz]
theorem sU (b' t n:Nat) :cz ok b ys (.bt b' t n) =if b'=b then .top else if ok b'=true then .bt b' t n else .top:=by simp only[cz]
theorem yq (b o n:Nat) :d9 ok (.sv b o n) =if ok b=true then .sv b o n else .top:=by simp only[d9]
theorem yr (b n:Nat) (s:Nat×Nat) :d9 ok (.gv b n s) =if ok b=true then .gv b n s else .top:=by simp only[d9]
theorem yu (b o:Nat) :d9 ok (.bp b o) =if ok b=true then .bp b o else .top:=by simp only[d9]
theorem yw (b:Nat) :d9 ok (.mp b) =if ok b=true then .mp b else .top:=by simp only[d9]
theorem yx (b t n:Nat) :d9 ok (.bt b t n) =if ok b=true then .bt b t n else .top:=by simp only[d9]
theorem yz (xs:List C) :d9 ok (.kp xs) = .kp (scrs ok xs) :=by simp only[d9]
theorem tZ (xs:List C) :d9 ok (.agg xs) = .agg (scrs ok xs) :=by simp only[d9]
theorem yA (f:Nat) (xs:List C) :d9 ok (.fn f xs) = .fn f (scrs ok xs) :=by simp only[d9]
theorem t4:d9 ok .top= .top:=by simp only[d9]
theorem t5 (v:Value) :d9 ok (.val v) = .val v:=by simp only[d9]
theorem rt:scrs ok [] = [] :=by simp only[scrs]
theorem oJ (x:C) (xs:List C) :scrs ok (x::xs) =d9 ok x::scrs ok xs:=by simp only[scrs]
theorem qo {α:Type} (f:α→List C) [h:Fla f] (l:List α) :scrs ok (cl f l) =cl f l:=scrs_flat ok _ (gI f l)
theorem yB {α:Type} (f:α→List C) [h:Fla f] (r:Rt) (l:List α) :d9 ok (sl f r l) =sl f r l:=by unfold sl;simp only[d9,qo]
theorem yC (h:Hp) :kI ok b ys h= (h.map fun o=>o.map (fzCs ok b ys)).set b (some eL) :=rfl
theorem FA (h:Hp) (cells:List C) :fzY h b cells= (scrs (dH h b) cells).map C.noR:=rfl
end
section
variable {cx:Cx} {Q:Ex→St→Prop} {e:List (Nat×C)} {h:Hp} {c:Code}
theorem cZ (hcx:CxOK cx) (b:Nat) (cells:List C) {e':List (Nat×C)} {h':Hp} (H:Tr cx 0 c ⟨A e',h'⟩ Q)
 (hb:h.at b=some cells:=by simp only[go_sem])
 (E: ∀K:List (Nat×C)→Hp→Prop,K e' h'→K (jx (cz (dH h b) b (fzY h b cells)) e) (kI (dH h b) b (fzY h b cells) h) :=by
   intro KZ hZ
   simp -implicitDefEqProofs only[go_sem,FA,Fr,yC,lO,ky,mV,qi,qj,qk,sK,sL,oF,sR,sS,sT,sU,sM,nH,l3,mW,yq,yr,yu,yw,yx,yz,tZ,yA,t4,t5,yB,rt,oJ,qo,sQ,oG,Option.isSome_some,Option.isSome_none,Nat.reduceBNe,Bool.true_and,Bool.and_true,Bool.false_and,Bool.true_or,Bool.false_or,↓reduceIte,Nat.reduceEqDiff,reduceCtorEq,Nat.zero_ne_one,Nat.one_ne_zero]
   with_reducible exact hZ) :Tr cx 0 c ⟨A e,h⟩ Q:=
 Fp hcx b cells hb (Nat.zero_le _) (fun j hj=>absurd hj (Nat.not_lt_zero j)) (E (fun x y=>Tr cx 0 c ⟨A x,y⟩ Q) H)
theorem B3 (hcx:CxOK cx) (b m f:Nat) (pre:List C) {e':List (Nat×C)} {h':Hp} (H:Tr cx 0 c ⟨A e',h'⟩ Q)
 (hb:h.at b=some [.fn f (pre++[.bp b 0])] :=by simp only[go_sem])
 (h1:scrs (dH h b) pre=pre:=by simp -implicitDefEqProofs only[go_sem,yq,yr,yu,yw,yx,yz,tZ,yA,t4,t5,yB,rt,oJ,qo,oG,Option.isSome_some,Nat.reduceBNe,Bool.true_and,Bool.true_or,↓reduceIte,Nat.reduceEqDiff,reduceCtorEq])
 (h2: ∀ys,fzCs (dH h b) b ys pre=pre:=by intro ys;simp -implicitDefEqProofs only[go_sem,mV,qi,qj,qk,sK,sL,oF,sR,sS,sT,sU,sM,nH,l3,mW,oG,Option.isSome_some,Nat.reduceBNe,Bool.true_and,Bool.true_or,↓reduceIte,Nat.reduceEqDiff,reduceCtorEq])
 (E: ∀K:List (Nat×C)→Hp→Prop,K e' h'→K (jx (cz (dH h b) b [.fn f (pre++[dm f pre m])]) e) (kI (dH h b) b [.fn f (pre++[dm f pre m])] h) :=by
   intro KZ hZ
   simp -implicitDefEqProofs only[go_sem,yC,lO,ky,mV,qi,qj,qk,sK,sL,oF,sR,sS,sT,sU,sM,nH,l3,mW,sQ,oG,Option.isSome_some,Option.isSome_none,Nat.reduceBNe,Bool.true_and,Bool.and_true,Bool.false_and,Bool.true_or,Bool.false_or,↓reduceIte,Nat.reduceEqDiff,reduceCtorEq,Nat.zero_ne_one,Nat.one_ne_zero]
   with_reducible exact hZ) :Tr cx 0 c ⟨A e,h⟩ Q:=
 Oh hcx b m _ hb (Nat.zero_le _) (fun j hj=>absurd hj (Nat.not_lt_zero j)) (by rw[uQ h b f pre h1 h2 m];exact E (fun x y=>Tr cx 0 c ⟨A x,y⟩ Q) H)
end
theorem XZ {P:Program} {t e:TypeId} {s y:Nat} {z:List Value} (op:BinOp) (a:Option Addr) (n c:Nat) (h:td P t=some ⟨.slice e,s,y,z⟩) (hg:P.eqGuardType P.depth t=false) :aW P op t (.val (.slice a n c)) (.val (.slice none 0 0)) =oA op a.isNone:=by
 have he:jd P 9 t (.val (.slice a n c)) (.val (.slice none 0 0)) =some a.isNone:=by
  unfold jd;rw[h]
  show xO (some a.isNone) (some true) =_
  cases a<;>rfl
 show gu P op t _ _=_
 unfold gu
 rw[if_pos ⟨.inr (.inl ⟨rfl,rfl⟩),hg⟩]
 unfold oA
 cases op<;>simp[he,vp,Plan.pure]
theorem RepL.pick {G:Gh} {x:C} : ∀ {pre post:List C} {vs:List Value},RepL G (pre++x::post) vs→∃v,Rep G x v∧RepL G (pre++ .val v::post) vs
 | [],post,vs,h=>by
   simp only[List.nil_append,RepL] at h ⊢
   obtain ⟨v,vs',rfl,h1,h2⟩ :=h
   exact ⟨v,h1,v,vs',rfl,aY.2 rfl,h2⟩
 |p::pre,post,vs,h=>by
  simp only[List.cons_append,RepL] at h ⊢
  obtain ⟨v,vs',rfl,h1,h2⟩ :=h
  obtain ⟨u,g1,g2⟩ :=RepL.pick h2
  exact ⟨u,g1,v,vs',rfl,h1,g2⟩
theorem Iu {P:Program} {gl:Nat→C} {f:Nat} {pre post:List C} {h h':Hp} {c:C} {r:Rt} (he:kT P f) (H: ∀ (a:Option Addr) (cap:Nat),cap≤maxLen→FC P gl f (pre++ .val (.slice a 0 cap) ::post) h c h') :FC P gl f (pre++ .sl r 0 [] ::post) h c h':=by
 refine ⟨he,fun G w vs W hT hg hr=> ?_⟩
 obtain ⟨v,h1⟩ : ∃v,Rep G (.sl r 0 []) v∧RepL G (pre++ .val v::post) vs.toList:=RepL.pick hr
 obtain ⟨q,hl⟩ :=h1
 simp only[Rep] at q
 obtain ⟨a,cap,rfl,_,h3,_,_⟩ :=q
 exact (H a cap h3).2 G w vs W hT hg hl
theorem FB (a:Option Addr) (cap:Nat) (h:cap≤maxLen) :CLe (.val (.slice a 0 cap)) (.sl .no 0 []) :=
 ⟨fun G v q=>by rw[aY] at q;simp only[Rep];exact ⟨a,cap,q,Nat.zero_le _,h,fun e=> (by cases e),by simp⟩,fun s n xs e=>by cases e⟩
theorem Iv (b f:Nat) (pre:List C) (d:Nat) (l:List C) :gx b (dm f pre d::l) =gx b l:=by cases d<;>rfl
attribute [go_sem] Oi Iv
end Go.Sx
namespace Go.Sx
open Go.RowKit Go.Proofs
set_option maxRecDepth 100000
set_option maxHeartbeats 8000000
theorem WE (l:List ab) (d:Nat) :dm 79 [.kp [sl eC .no l]] (d+1) = .kp [.fn 79 [.kp [sl eC .no l],dm 79 [.kp [sl eC .no l]] d]] :=rfl
def OkL (l:List ab) :Prop:=l.length≤4096∧∀i,i< l.length→(gt l i).1.length≤65536∧(gt l i).2.length≤65536
theorem gX {l:List ab} (h: ¬cW l=4) :OkL l:=by
 unfold cW at h
 split at h
 · exact absurd rfl h
 · rename_i hn
   refine ⟨by omega,fun i hi=> ?_⟩
   have:dv (gt l i) =false:=Bool.eq_false_iff.2 fun e=>hn (Or.inr (wW hi e))
   simp[dv] at this;omega
theorem n7 {l:List ab} {d a b:Nat} (h:b - a≤1) :dD l d a b=fV (gt l a) :=by
 cases d with
 |zero=>rfl
 |succ d=>unfold dD;rw[if_pos h]
theorem rY {l:List ab} {d a b:Nat} (h: ¬b - a≤1) :dD l (d+1) a b=iI (dD l d a (a+aV (b - a))) (dD l d (a+aV (b - a)) b) :=by
 rw[dD,if_neg h]
def dE (l:List ab) :List UInt8:=gB l.length (jD l)
theorem i1 (l:List ab) : (dE l).length=16:=gC _ _
def kD (l:List ab) :List UInt8×Nat:=if cW l=0 then (dE l,0) else (List.replicate 16 0,cW l)
theorem Lw {l:List ab} (h: ¬cW l=0) :kD l= (List.replicate 16 0,cW l) :=if_neg h
theorem pZ {l:List ab} (h:cW l=0) :kD l= (dE l,0) :=if_pos h
theorem Dj {l:List ab} (h:l.length=0) (d:List UInt8) :gB 0 d=dE l:=by unfold dE;rw[h];rfl
theorem tC {p:Prop} (e:p:=by intro KZ hZ;simp -implicitDefEqProofs (disch:=first|omega| (simp only[go_sem,lA,lD,lT,dx] <;>omega) |decide) only[go_sem,↓reduceIte,Nat.reduceEqDiff,reduceCtorEq,Nat.reduceLT,Nat.reduceBEq,Nat.reduceAdd,hy];with_reducible exact hZ) :p:=e
theorem Lx {p:Prop} (e:p:=by simp -implicitDefEqProofs (disch:=first|omega| (simp only[go_sem,lA,lD,lT,dx] <;>omega) |decide) only[go_sem,↓reduceIte,Nat.reduceEqDiff,reduceCtorEq];all_goals (rw[n7 hab.2.2])) :p:=e
theorem Kg {gl:Nat→C} {M:Nat} {pu:Nat→List C→Option C} (hcx:CxOK (aO gl M pu)) (h80: ∀x:ab,x.1.length≤65536∧x.2.length≤65536→pu 80 [.agg (eC x)] =some (.agg (cl bC (fV x)))) (l:List ab) (d a b:Nat) (hl:OkL l) (hab:a< b∧b≤l.length∧b - a≤1) :FC Tryd.prog gl 79 [.val (nI a),.val (nI b),.kp [sl eC .no l],dm 79 [.kp [sl eC .no l]] d] [] (.agg (cl bC (dD l d a b))) [] :=by
 replace hcx:=hcx.reN (M:=29)
 refine bZ (cx:=aO gl 29 pu) (rs:= [.cell 6 29]) rfl Tryd.func79 rfl rfl rfl (by simp only[List.length_cons,List.length_nil];decide) (by simp only[go_sem]) ?_
 simp only[cO,go_sem]
 have hy:=True.intro
 have h11:b - a=1:=by omega
 have hll:=hl.1
 have e80:=h80 (gt l a) (hl.2 a (by omega))
 refine aa hcx [] _ [none] rfl rfl rfl ?_ tC
 refine ae fun K1 hK1=> ?_
 have hy:= @h11
 refine aa hcx [] _ [] rfl rfl rfl ?_ tC
 refine ct rfl ?_
 have hy:= @e80
 refine aa hcx [] _ [] rfl rfl rfl ?_ tC
 exact Tr.ret Lx
theorem tD {p:Prop} (e:p:=by intro KZ hZ;simp -implicitDefEqProofs (disch:=first|omega| (simp only[go_sem,lA,lD,lT,fA,dB] <;>omega) |decide) only[go_sem,↓reduceIte,Nat.reduceEqDiff,reduceCtorEq,Nat.reduceLT,Nat.reduceBEq,Nat.reduceAdd,hy];with_reducible exact hZ) :p:=e
theorem Ly {p:Prop} (e:p:=by intro KZ hZ;simp -implicitDefEqProofs (disch:=first|omega| (simp only[go_sem,lA,lD,lT,fA,dB] <;>omega) |decide) only[go_sem,↓reduceIte,Nat.reduceEqDiff,reduceCtorEq,Nat.reduceLT,Nat.reduceBEq,Nat.reduceAdd,hy];refine And.intro ?_ hZ;exact rfl) :p:=e
theorem Lz {p:Prop} (e:p:=by simp -implicitDefEqProofs (disch:=first|omega| (simp only[go_sem,lA,lD,lT,fA,dB] <;>omega) |decide) only[go_sem,↓reduceIte,Nat.reduceEqDiff,reduceCtorEq];all_goals (rw[rY (by omega)])) :p:=e
theorem WF {gl:Nat→C} {M:Nat} {pu:Nat→List C→Option C} (hcx:CxOK (aO gl M pu)) (h81: ∀x y:Nat,x≤y∧y≤4611686018427387000→pu 81 [.val (nI x),.val (nI y)] =some (.val (nI (x+aV (y - x))))) (h82: ∀a b:List UInt8,a.length=16→b.length=16→pu 82 [.agg (cl bC a),.agg (cl bC b)] =some (.agg (cl bC (iI a b)))) (l:List ab) (d a b:Nat) (hl:OkL l) (hab:a< b∧b≤l.length∧b - a≤2 ^ (d+1)∧1< b - a) (h79: ∀ (a b:Nat),a< b∧b≤l.length∧b - a≤2 ^ d→pu 79 [.val (nI a),.val (nI b),.kp [sl eC .no l],dm 79 [.kp [sl eC .no l]] d] =some (.agg (cl bC (dD l d a b)))) :FC Tryd.prog gl 79 [.val (nI a),.val (nI b),.kp [sl eC .no l],dm 79 [.kp [sl eC .no l]] (d+1)] [] (.agg (cl bC (dD l (d+1) a b))) [] :=by
 replace hcx:=hcx.reN (M:=29)
 refine bZ (cx:=aO gl 29 pu) (rs:= [.cell 6 29]) rfl Tryd.func79 rfl rfl rfl (by simp only[List.length_cons,List.length_nil];decide) (by simp only[go_sem]) ?_
 simp only[cO,go_sem]
 have hy:=True.intro
 have h11: (b - a=1) =False:=eq_false (by omega)
 have hll:=hl.1
 have e81:=h81 a b (by omega)
 have hh:=fO (n:=b - a) (by omega)
 have hh2:=fu (by omega) hab.2.2.1
 have e1:=h79 a (a+aV (b - a)) (by omega)
 have e2:=h79 (a+aV (b - a)) b (by omega)
 have e82:=h82 _ _ (fA l d a (a+aV (b - a))) (fA l d (a+aV (b - a)) b)
 refine aa hcx [] _ [none] rfl rfl rfl ?_ tD
 refine ae fun K1 hK1=> ?_
 have hy:= @h11
 refine aa hcx [] _ [] rfl rfl rfl ?_ tD
 refine bn rfl ?_
 refine Tr.skip ?_
 refine hK1 _ ?_
 have hy:= @e81
 refine aa hcx [1000019] _ [] rfl rfl rfl ?_ tD
 have hy:=And.intro @WE (And.intro @e1 (And.intro @e2 @e82))
 refine bH hcx cK [] _ [] rfl rfl rfl rfl ?_ Ly
 exact Tr.ret Lz
theorem rZ {p:Prop} (e:p:=by intro KZ hZ;simp -implicitDefEqProofs (disch:=first|omega| (simp only[go_sem,lA,lD,lT,fA] <;>omega) |decide) only[go_sem,↓reduceIte,Nat.reduceEqDiff,reduceCtorEq,Nat.reduceLT,Nat.reduceBEq,Nat.reduceAdd,hy];with_reducible exact hZ) :p:=e
theorem RV {p:Prop} (e:p:=by simp -implicitDefEqProofs (disch:=first|omega| (simp only[go_sem,lA,lD,lT,fA] <;>omega) |decide) only[go_sem,↓reduceIte,Nat.reduceEqDiff,reduceCtorEq];all_goals (rfl)) :p:=e
theorem aaG {gl:Nat→C} {M:Nat} {pu:Nat→List C→Option C} (hcx:CxOK (aO gl M pu)) (h79: ∀ (l:List ab) (d a b:Nat),OkL l→a< b∧b≤l.length∧b - a≤2 ^ d→pu 79 [.val (nI a),.val (nI b),.kp [sl eC .no l],dm 79 [.kp [sl eC .no l]] d] =some (.agg (cl bC (dD l d a b)))) (l:List ab) (hl:OkL l) (h0:0< l.length) :FC Tryd.prog gl 51 [sl eC .no l] [] (.agg (cl bC (jD l))) [] :=by
 replace hcx:=hcx.reN (M:=9)
 refine bZ (cx:=aO gl 9 pu) (rs:= [.cell 2 29]) rfl Tryd.func51 rfl rfl rfl (by simp only[List.length_cons,List.length_nil];decide) (by simp only[go_sem]) ?_
 simp only[cO,go_sem]
 have hy:=True.intro
 have hll:=hl.1
 have e79:=h79 l 12 0 l.length hl (by omega)
 refine aa hcx [] _ [none,none] rfl rfl rfl ?_ rZ
 refine aa hcx [] _ [none] rfl rfl rfl ?_ rZ
 refine aa hcx [] _ [] rfl rfl rfl ?_ rZ
 refine Tr.k [1,2,3] ?_
 refine cZ hcx 0 [sl eC .no l] ?_
 refine B3 hcx 2 12 79 [.kp [sl eC .no l]] ?_
 have hy:= @e79
 refine aa hcx [] _ [] rfl rfl rfl ?_ rZ
 exact Tr.ret RV
theorem j5 {p:Prop} (e:p:=by intro KZ hZ;simp -implicitDefEqProofs (disch:=first|omega| (simp only[go_sem,lA,lD,lT,gC,qN] <;>omega) |decide) only[go_sem,↓reduceIte,Nat.reduceEqDiff,reduceCtorEq,Nat.reduceLT,Nat.reduceBEq,Nat.reduceAdd,b1,hy];with_reducible exact hZ) :p:=e
theorem xg {p:Prop} (e:p:=by simp -implicitDefEqProofs (disch:=first|omega| (simp only[go_sem,lA,lD,lT,gC,qN] <;>omega) |decide) only[go_sem,↓reduceIte,Nat.reduceEqDiff,reduceCtorEq];all_goals (first| (rw[Lw b1];done) | (rw[pZ b1,Dj hc13];done) | (rw[pZ b1];rfl))) :p:=e
theorem aaH {gl:Nat→C} {M:Nat} {pu:Nat→List C→Option C} (hcx:CxOK (aO gl M pu)) (h15: ∀l:List ab,LB l→pu 15 [sl eC .no l] =some (.val (nI (cW l)))) (h50: ∀ (n:Nat) (d:List UInt8),n≤4096→d.length=16→pu 50 [.val (nI n),.agg (cl bC d)] =some (.agg (cl bC (gB n d)))) (h51: ∀l:List ab,OkL l→0< l.length→pu 51 [sl eC .no l] =some (.agg (cl bC (jD l)))) (l:List ab) (hl:LB l) :FC Tryd.prog gl 12 [sl eC .no l] [] (.tup [.agg (cl bC (kD l).1),.val (nI (kD l).2)]) [] :=by
 replace hcx:=hcx.reN (M:=21)
 refine bZ (cx:=aO gl 21 pu) (rs:= [.cell 2 29,.tmp 3]) rfl Tryd.func12 rfl rfl rfl (by simp only[List.length_cons,List.length_nil];decide) (by simp only[go_sem]) ?_
 simp only[cO,go_sem]
 have b1:=True.intro
 have hy:=True.intro
 have e15:=h15 l hl
 refine aa hcx [] _ [none] rfl rfl rfl ?_ j5
 refine ae fun K1 hK1=> ?_
 have hy:= @e15
 refine aa hcx [1000006] _ [] rfl rfl rfl ?_ j5
 by_cases b1:cW l=0
 ·
  have hok:=gX (l:=l) (by omega)
  have hll:=hok.1
  have e0:=h50 0 (List.replicate 16 0) (by omega) rfl
  have e1:=h50 l.length (jD l) hll (qN l)
  have hy:=True.intro
  refine aa hcx [] _ [] rfl rfl rfl ?_ j5
  refine bn rfl ?_
  refine Tr.skip ?_
  refine hK1 _ ?_
  refine ae fun K2 hK2=> ?_
  refine aa hcx [] _ [] rfl rfl rfl ?_ j5
  refine bS rfl (fun hc13=> ?_) (fun hc13=> ?_)
  ·
   have hl0:=hc13
   have hy:= @e0
   refine aa hcx [] _ [] rfl rfl rfl ?_ j5
   exact Tr.ret xg
  have e51:=h51 l hok (by omega)
  refine Tr.skip ?_
  refine hK2 _ ?_
  have hy:=And.intro @e51 @e1
  refine aa hcx [] _ [] rfl rfl rfl ?_ j5
  exact Tr.ret xg
 skip
 have hy:=True.intro
 refine aa hcx [] _ [] rfl rfl rfl ?_ j5
 refine ct rfl ?_
 refine aa hcx [1000010] _ [] rfl rfl rfl ?_ j5
 exact Tr.ret xg
end Go.Sx
namespace Go.Sx
open Go.RowKit
mutual
theorem Uv (n:Nat) : ∀x:C,c7 (fun i=>i - n) (c7 (n+ ·) x) =x
 | .sv b o m=>by simp only[c7,Nat.add_sub_cancel_left]
 | .gv b m s=>by simp only[c7,Nat.add_sub_cancel_left]
 | .bp b o=>by simp only[c7,Nat.add_sub_cancel_left]
 | .mp b=>by simp only[c7,Nat.add_sub_cancel_left]
 | .bt b t m=>by simp only[c7,Nat.add_sub_cancel_left]
 | .sl r m xs=>by simp only[c7,bks_inv n xs]
 | .kp xs=>by simp only[c7,bks_inv n xs]
 | .agg xs=>by simp only[c7,bks_inv n xs]
 | .tup xs=>by simp only[c7,bks_inv n xs]
 | .fn f xs=>by simp only[c7,bks_inv n xs]
 | .top=>by simp only[c7]
 | .val v=>by simp only[c7]
theorem bks_inv (n:Nat) : ∀l:List C,bkCs (fun i=>i - n) (bkCs (n+ ·) l) =l
 | [] =>by simp only[bkCs]
 |x::l=>by simp only[bkCs,Uv n x,bks_inv n l]
end
theorem sV {n:Nat} {l m:List C} (h:bkCs (n+ ·) l=bkCs (n+ ·) m) :l=m:=by
 rw[←bks_inv n l,h,bks_inv]
theorem sW (n:Nat) : ∀ {h k:Hp},eb n h=eb n k→h=k
 | [],[],_=>rfl
 | [],o::k,e=>by simp[eb] at e
 |o::h,[],e=>by simp[eb] at e
 |o::h,p::k,e=>by
  simp only[jU,List.cons.injEq] at e
  rw[sW n e.2]
  congr 1
  cases o with
  |none=>cases p with
   |none=>rfl
   |some q=>simp at e
  |some r=>cases p with
   |none=>simp at e
   |some q=>simp only[Option.map_some,Option.some.injEq] at e;rw[sV e.1]
theorem t6 (r:Nat→Nat) : ∀ (l:List C) (j:Nat),(bkCs r l)[j]? = (l[j]?).map (c7 r)
 | [],j=>by simp[bkCs]
 |x::l,0=>by simp[bkCs]
 |x::l,j+1=>by simp[bkCs,t6 r l j]
theorem qJ {G:Gh} : ∀ {l:List C} {vs:List Value} {x:C},x∈l→RepL G l vs→∃v,Rep G x v
 | [],_,_,h,_=>by cases h
 |y::l,vs,x,h,r=>by
  simp only[RepL] at r
  obtain ⟨v,vs',_,h1,h2⟩ :=r
  rcases List.mem_cons.1 h with rfl|h
  · exact ⟨v,h1⟩
  · exact qJ h h2
theorem FD {P:Program} {gl:Nat→C} {f:Nat} {args:List C} {c:C} {h':Hp} (he:kT P f) (b o:Nat) (ha:C.bp b o∈args) :FC P gl f args [] c h':=by
 refine ⟨he,fun G w vs W _ _ hr=> ?_⟩
 obtain ⟨v,hv⟩ :=qJ ha hr
 simp only[Rep] at hv
 obtain ⟨blk,h1,_⟩ :=hv
 obtain ⟨⟨c,hc⟩,_⟩ :=W.dom b blk h1
 cases hc
def OkH (h:Hp) :Prop:= ∀o∈h,kL o=true
structure Small (P:Program) (gl:Nat→C) (f:Nat) (α:Type) where
 k:Nat
 j:Nat
 args:α→List C
 X:α→Hp
 r:α→C
 Y:α→Hp
 k0:0< k
 hk: ∀a,(X a).length=k
 hy: ∀a,(Y a).length=k
 al: ∀a,∀o∈X a,((cI o).isSome|| (ga o).isSome) =true
 nr: ∀a,noRefs k (args a) =true
 nx: ∀a,l4 k (X a) =true
 at0: ∀a,∃o,(args a)[j]? =some (.bp 0 o)
 inj: ∀a b,args a=args b→X a=X b→r a=r b∧Y a=Y b
 fc: ∀a,FC P gl f (args a) (X a) (r a) (Y a)
section
variable {P:Program} {gl:Nat→C} {f:Nat} {α:Type}
inductive SmD (α:Type) where
 |n (a:α) (pre suf:Hp) (h1:OkH pre) (h2:OkH suf)
 |e (xs:List C) (h: ∃b o,C.bp b o∈xs)
def Small.enc (S:Small P gl f α) :SmD α→List C×Hp
 | .n a pre suf _ _=> (bkCs (pre.length+ ·) (S.args a),pre++(eb pre.length (S.X a)++suf))
 | .e xs _=> (xs,[])
def Small.out (S:Small P gl f α) :SmD α→C×Hp
 | .n a pre suf _ _=> (c7 (jV pre.length S.k suf.length) (S.r a),pre++((S.Y a).map (Option.map (bkCs (jV pre.length S.k suf.length)))++suf))
 | .e _ _=> (.top,[])
theorem qp (n:Nat) (h:Hp) : (eb n h).length=h.length:=by simp[eb]
theorem Small.ij (S:Small P gl f α) (x y:SmD α) (h:S.enc x=S.enc y) :S.out x=S.out y:=by
 cases x with
 |n a pre suf h1 h2=>
  cases y with
  |n b pre' suf' h1' h2'=>
   simp only[Small.enc,Prod.mk.injEq] at h
   obtain ⟨e1,e2⟩ :=h
   have hp:pre.length=pre'.length:=by
    obtain ⟨o,ho⟩ :=S.at0 a
    obtain ⟨o',ho'⟩ :=S.at0 b
    have g1:=t6 (pre.length+ ·) (S.args a) S.j
    have g2:=t6 (pre'.length+ ·) (S.args b) S.j
    rw[e1,g2,ho,ho'] at g1
    simp only[Option.map_some,c7,Option.some.injEq,C.bp.injEq,Nat.add_zero] at g1
    exact g1.1.symm
   obtain ⟨e3,e4⟩ :=List.append_inj e2 hp
   subst e3
   obtain ⟨e5,e6⟩ :=List.append_inj e4 (by rw[qp,qp,S.hk,S.hk])
   obtain ⟨q1,q2⟩ :=S.inj a b (sV e1) (sW _ e5)
   subst e6
   simp only[Small.out,q1,q2]
  |e xs hx=>
   exfalso
   simp only[Small.enc,Prod.mk.injEq] at h
   have:=congrArg List.length h.2
   simp only[List.length_append,qp,S.hk,List.length_nil] at this
   have:=S.k0;omega
 |e xs hx=>
  cases y with
  |n b pre' suf' h1' h2'=>
   exfalso
   simp only[Small.enc,Prod.mk.injEq] at h
   have:=congrArg List.length h.2
   simp only[List.length_append,qp,S.hk,List.length_nil] at this
   have:=S.k0;omega
  |e ys hy=>rfl
noncomputable def Small.tab (S:Small P gl f α) (hp:Nat→List C→Hp→Option (C×Hp)) :Nat→List C→Hp→Option (C×Hp) :=extH hp f (rf S.enc S.out)
theorem gz {km:TypeId→Value→Bool} {pu:Nat→List C→Option C} {hp:Nat→List C→Hp→Option (C×Hp)} {N M:Nat} (hcx:CxOK ⟨P,N,gl,pu,hp,fun _=>false,km⟩) (he:kT P f) (S:Small P gl f α) :
 CxOK ⟨P,M,gl,pu,S.tab hp,fun _=>false,km⟩ :=CxOK.extH hcx fun a=>by
 cases a with
 |n a pre suf h1 h2=>
  have h:=Ut (S.fc a) pre suf h1 h2 (S.al a) (by rw[S.hk];exact S.nr a) (by rw[S.hk];exact Og (S.nx a)) (by rw[S.hk,S.hy];exact Nat.le_refl _) hcx.glo
  rw[S.hk,List.take_of_length_le (by rw[S.hy];exact Nat.le_refl _),List.drop_of_length_le (by rw[S.hy];exact Nat.le_refl _),List.map_nil,List.append_nil] at h
  exact h
 |e xs hx=>
  obtain ⟨b,o,hx⟩ :=hx
  exact FD he b o hx
theorem jz (S:Small P gl f α) (hp:Nat→List C→Hp→Option (C×Hp)) (a:α) (pre suf:Hp) (h1:OkH pre) (h2:OkH suf) :
 S.tab hp f (bkCs (pre.length+ ·) (S.args a)) (pre++(eb pre.length (S.X a)++suf)) =some (c7 (jV pre.length S.k suf.length) (S.r a),pre++((S.Y a).map (Option.map (bkCs (jV pre.length S.k suf.length)))++suf)) :=
 (rh _ _).trans (x9 S.ij (.n a pre suf h1 h2))
theorem Small.never (S:Small P gl f α) (hp:Nat→List C→Hp→Option (C×Hp)) (xs:List C) (h: ∃b o,C.bp b o∈xs) :S.tab hp f xs [] =some (.top,[]) :=
 (rh _ _).trans (x9 S.ij (.e xs h))
theorem kM (S:Small P gl f α) (hp:Nat→List C→Hp→Option (C×Hp)) {g:Nat} (h:g≠f) (xs:List C) (k:Hp) :S.tab hp g xs k=hp g xs k:=uH h xs k
end
theorem OkH.nil:OkH [] :=fun o h=>by cases h
theorem OkH.cons {o:Option (List C)} {h:Hp} (h1:kL o=true) (h2:OkH h) :OkH (o::h) :=fun p hp=>by
 rcases List.mem_cons.1 hp with rfl|hp
 · exact h1
 · exact h2 p hp
mutual
theorem Oj (r:Nat→Nat) : ∀c:C,flat c=true→c7 r c=c
 | .val _,_=>by simp only[c7]
 | .agg xs,h=>by simp only[flat] at h;simp only[c7,bks_flat r xs h]
 | .tup xs,h=>by simp only[flat] at h;simp only[c7,bks_flat r xs h]
 | .top,h=>by simp[flat] at h
 | .sl _ _ _,h=>by simp[flat] at h
 | .sv _ _ _,h=>by simp[flat] at h
 | .gv _ _ _,h=>by simp[flat] at h
 | .bp _ _,h=>by simp[flat] at h
 | .bt _ _ _,h=>by simp[flat] at h
 | .mp _,h=>by simp[flat] at h
 | .kp _,h=>by simp[flat] at h
 | .fn _ _,h=>by simp[flat] at h
theorem bks_flat (r:Nat→Nat) : ∀l:List C,flats l=true→bkCs r l=l
 | [],_=>by simp only[bkCs]
 |x::xs,h=>by simp only[flats,Bool.and_eq_true] at h;simp only[bkCs,Oj r x h.1,bks_flat r xs h.2]
end
theorem mZ (r:Nat→Nat) {α:Type} (f:α→List C) [h:Fla f] (l:List α) :bkCs r (cl f l) =cl f l:=bks_flat r _ (gI f l)
theorem sX (r:Nat→Nat) {α:Type} (f:α→List C) [h:Fla f] (q:Rt) (l:List α) :c7 r (sl f q l) =sl f q l:=by unfold sl;simp only[c7,mZ]
end Go.Sx
namespace Go.Sx
open Go.RowKit Go.Proofs
set_option maxRecDepth 100000
set_option maxHeartbeats 8000000
noncomputable def fj (gl:Nat→C) (M:Nat) (pu:Nat→List C→Option C) (hp:Nat→List C→Hp→Option (C×Hp)) :Cx:= ⟨Tryd.prog,M,gl,pu,hp,fun _=>false,fun _ _=>false⟩
section
variable {gl:Nat→C} {M:Nat} {pu:Nat→List C→Option C} {hp:Nat→List C→Hp→Option (C×Hp)}
theorem WG: (fj gl M pu hp).P=Tryd.prog:=rfl
theorem WH: (fj gl M pu hp).N=M:=rfl
theorem RW: (fj gl M pu hp).pu=pu:=rfl
theorem RX: (fj gl M pu hp).hp=hp:=rfl
theorem RY (d:Option Nat) :nS (fj gl M pu hp) d=false:=by cases d<;>rfl
end
theorem dJ {gl:Nat→C} {M:Nat} {pu:Nat→List C→Option C} {hp:Nat→List C→Hp→Option (C×Hp)} : (fj gl M pu hp).P.follows .mixedOrders=true:=cK (gl:=gl) (M:=M) (pu:=pu)
attribute [go_sem] WG WH RW RX RY
abbrev TS:=List (List UInt8)×Nat×Bool
def fY (S:List cf) (st:TS) :List UInt8×TS:=if S.length≤st.2.1 then (List.replicate 16 0,(st.1,st.2.1,true)) else ((gt S st.2.1).1,(st.1,st.2.1+1,st.2.2))
def ma (x:ab) (st:TS) :List UInt8×TS:= (fV x,(st.1++[cL 3 [x.1,x.2]],st.2))
def lh (x:List UInt8) (y:List UInt8×TS) :List UInt8×TS:= (iI x y.1,(y.2.1++[cL 4 [x,y.1]],y.2.2))
def bX (l:List ab) (f:Nat) (S:List cf) :Nat→Nat→Nat→TS→List UInt8×TS
 |0,a,b,st=>if b≤f∨f+l.length≤a then fY S st else ma (gt l (a - f)) st
 |d+1,a,b,st=>if b≤f∨f+l.length≤a then fY S st else if b - a≤1 then ma (gt l (a - f)) st
   else lh (bX l f S d a (a+aV (b - a)) st).1 (bX l f S d (a+aV (b - a)) b (bX l f S d a (a+aV (b - a)) st).2)
section
variable {l:List ab} {f:Nat} {S:List cf} {d a b:Nat} {st:TS}
theorem gS (h:b≤f∨f+l.length≤a) :bX l f S d a b st=fY S st:=by cases d<;>simp only[bX,if_pos h]
theorem fl (h: ¬ (b≤f∨f+l.length≤a)) (h2:b - a≤1) :bX l f S d a b st=ma (gt l (a - f)) st:=by cases d<;>simp only[bX,if_neg h,if_pos h2]
theorem j6 (h: ¬ (b≤f∨f+l.length≤a)) (h2: ¬b - a≤1) :bX l f S (d+1) a b st=lh (bX l f S d a (a+aV (b - a)) st).1 (bX l f S d (a+aV (b - a)) b (bX l f S d a (a+aV (b - a)) st).2) :=by simp only[bX,if_neg h,if_neg h2]
theorem Dk (h:S.length≤st.2.1) :fY S st= (List.replicate 16 0,(st.1,st.2.1,true)) :=if_pos h
theorem r8 (h: ¬S.length≤st.2.1) :fY S st= ((gt S st.2.1).1,(st.1,st.2.1+1,st.2.2)) :=if_neg h
theorem xh: (fY S st).1.length=16:=by unfold fY;split;rfl;exact (gt S st.2.1).2
end
theorem gD (l:List ab) (f:Nat) (S:List cf) : ∀d a b st,(bX l f S d a b st).1.length=16
 |0,a,b,st=>by unfold bX;split;exact xh;exact dx _
 |d+1,a,b,st=>by
  unfold bX;split
  · exact xh
  · split
    · exact dx _
    · exact dB _ _
theorem i8 (l:List ab) (f:Nat) (S:List cf) : ∀d a b st,(bX l f S d a b st).2.1.length+1≤st.1.length+2 ^ (d+1)∧(bX l f S d a b st).2.2.1≤max st.2.1 S.length∧(st.2.1≤(bX l f S d a b st).2.2.1)
 |0,a,b,st=>by
  unfold bX;split
  · unfold fY;split<;> (simp only[];omega)
  · simp only[ma,List.length_append,List.length_singleton];omega
 |d+1,a,b,st=>by
  have e:2 ^ (d+1+1) =2*2 ^ (d+1) :=by rw[Nat.pow_succ];omega
  have hp:=Nat.two_pow_pos (d+1)
  unfold bX;split
  · unfold fY;split<;> (simp only[];omega)
  · split
    · simp only[ma,List.length_append,List.length_singleton];omega
    · have h1:=i8 l f S d a (a+aV (b - a)) st
      have h2:=i8 l f S d (a+aV (b - a)) b (bX l f S d a (a+aV (b - a)) st).2
      simp only[lh,List.length_append,List.length_singleton]
      omega
def dN (l:List ab) (f:Nat) (S:List cf) (n:Nat) (st:TS) :List UInt8×TS:=
 if n=0 then (ofT 4 [cX ((0:Nat) :Int)],(st.1++[cL 4 [cX ((0:Nat) :Int)]],st.2))
 else let x:=bX l f S 12 0 n st;(ofT 4 [cX ((n:Nat) :Int),x.1],(x.2.1++[cL 4 [cX ((n:Nat) :Int),x.1]],x.2.2))
theorem n8 {l:List ab} {f:Nat} {S:List cf} {st:TS} {n:Nat} (h:n=0) :dN l f S n st= (ofT 4 [cX ((n:Nat) :Int)],(st.1++[cL 4 [cX ((n:Nat) :Int)]],st.2)) :=by subst h;exact if_pos rfl
theorem mE {l:List ab} {f:Nat} {S:List cf} {st:TS} {n:Nat} (h: ¬n=0) :dN l f S n st= (ofT 4 [cX ((n:Nat) :Int),(bX l f S 12 0 n st).1],((bX l f S 12 0 n st).2.1++[cL 4 [cX ((n:Nat) :Int),(bX l f S 12 0 n st).1]],(bX l f S 12 0 n st).2.2)) :=if_neg h
theorem y7 (l:List ab) (f:Nat) (S:List cf) (n:Nat) (st:TS) : (dN l f S n st).2.1.length≤st.1.length+8192∧(dN l f S n st).2.2.1≤max st.2.1 S.length:=by
 have h1:=i8 l f S 12 0 n st
 have e:2 ^ (12+1) =8192:=rfl
 unfold dN;split
 · simp only[List.length_append,List.length_singleton];omega
 · simp only[List.length_append,List.length_singleton];omega
def LZ (l:List ab) :Prop:=l.length≤5000∧∀i,i< l.length→(gt l i).1.length< 1000000∧(gt l i).2.length< 1000000
theorem OkL.lz {l:List ab} (h:OkL l) :LZ l:= ⟨by have:=h.1;omega,fun i hi=>by have:=h.2 i hi;omega⟩
theorem lj (T:List (List UInt8)) (S:List cf) (u:Nat) (sh:Bool) :l4 1 [some [sl sC (.own 1) T,sl dC .no S,.val (nI u),.val (.bool sh)]] =true:=by simp only[nK,qn,go_sem,Bool.and_self]
theorem xi {p:Prop} (e:p:=by intro KZ hZ;simp -implicitDefEqProofs (disch:=first|omega| (simp only[go_sem,lA,lD,lT,ec,hsl] <;>omega) |decide) only[go_sem,↓reduceIte,Nat.reduceEqDiff,reduceCtorEq,Nat.reduceLT,Nat.reduceBEq,Nat.reduceAdd,e65,e64,hy];with_reducible exact hZ) :p:=e
theorem R0 {p:Prop} (e:p:=by intro KZ hZ;simp -implicitDefEqProofs (disch:=first|omega| (simp only[go_sem,lA,lD,lT,ec,hsl] <;>omega) |decide) only[go_sem,↓reduceIte,Nat.reduceEqDiff,reduceCtorEq,Nat.reduceLT,Nat.reduceBEq,Nat.reduceAdd,e65,e64,hy];with_reducible refine And.intro ?_ hZ;first|exact rfl|decide) :p:=e
theorem R1 {p:Prop} (e:p:=by simp -implicitDefEqProofs (disch:=first|omega| (simp only[go_sem,lA,lD,lT,ec,hsl] <;>omega) |decide) only[go_sem,↓reduceIte,Nat.reduceEqDiff,reduceCtorEq];all_goals (rfl)) :p:=e
theorem aaI {gl:Nat→C} {M:Nat} {pu:Nat→List C→Option C} {hp:Nat→List C→Hp→Option (C×Hp)} (hcx:CxOK (fj gl M pu hp)) (h65: ∀ (tag:Int) (parts:List (List UInt8)),(cL tag parts).length< 1099511627776→pu 65 [.val (.int .i64 tag),sl sC .no parts] =some (sl bC (.own 1) (cL tag parts))) (h64: ∀b:List UInt8,b.length< 35184372088832→pu 64 [sl bC .no b] =some (.agg (cl bC ((eR b).take 16)))) (T:List (List UInt8)) (S:List cf) (u:Nat) (sh:Bool) (tag:Int) (parts:List (List UInt8)) (hT:T.length≤1000000) (hi: (cL tag parts).length< 1099511627776) :FC Tryd.prog gl 86 [.bp 0 0,.val (.int .i64 tag),sl sC .no parts] [some [sl sC (.own 1) (T),sl dC .no S,.val (nI (u)),.val (.bool (sh))]] (.agg (cl bC (ofT tag parts))) [some [sl sC (.own 1) (T++[cL tag parts]),sl dC .no S,.val (nI (u)),.val (.bool (sh))]] :=by
 replace hcx:=hcx.reN (M:=24)
 refine kz (cx:=fj gl 24 pu hp) (rs:= [.cell 6 29]) rfl Tryd.func86 rfl rfl rfl (by simp only[List.length_cons,List.length_nil];decide) (by simp only[go_sem]) (lj _ _ _ _) ?_
 simp only[cO,go_sem]
 have hy:=True.intro
 have e65:=h65 tag parts hi
 have e64:pu 64 [sl bC .no (cL tag parts)] =some (.agg (cl bC (ofT tag parts))) :=h64 _ (by omega)
 have hsl: ((eR (cL tag parts)).take 16).length=16:=ec tag parts
 refine aa hcx [] _ [none] rfl rfl rfl ?_ xi
 refine aa hcx [1000010] _ [] rfl rfl rfl ?_ xi
 refine bH hcx dJ [15] _ [] rfl rfl rfl rfl ?_ R0
 refine aa hcx [] _ [] rfl rfl rfl ?_ xi
 exact Tr.ret R1
end Go.Sx
namespace Go.Sx
open Go.RowKit Go.Proofs
set_option maxRecDepth 100000
set_option maxHeartbeats 8000000
theorem ig (p:List UInt8) :kL (some (cl bC p)) =true:=by cases p<;>rfl
theorem gh {p:Prop} (e:p:=by intro KZ hZ;simp -implicitDefEqProofs (disch:=first|omega| (simp only[go_sem,lA,lD,lT,dx,hgl,ec,dB] <;>omega) |decide) only[go_sem,↓reduceIte,Nat.reduceEqDiff,reduceCtorEq,Nat.reduceLT,Nat.reduceBEq,Nat.reduceAdd,ep86,en86,b1,b2,hy];with_reducible exact hZ) :p:=e
theorem mF {p:Prop} (e:p:=by intro KZ hZ;simp -implicitDefEqProofs (disch:=first|omega| (simp only[go_sem,lA,lD,lT,dx,hgl,ec,dB] <;>omega) |decide) only[go_sem,↓reduceIte,Nat.reduceEqDiff,reduceCtorEq,Nat.reduceLT,Nat.reduceBEq,Nat.reduceAdd,ep86,en86,b1,b2,hy];with_reducible refine And.intro ?_ hZ;first|exact rfl|decide) :p:=e
theorem mG {p:Prop} (e:p:=by simp -implicitDefEqProofs (disch:=first|omega| (simp only[go_sem,lA,lD,lT,dx,hgl,ec,dB] <;>omega) |decide) only[go_sem,↓reduceIte,Nat.reduceEqDiff,reduceCtorEq];all_goals (first| (simp only[hR];done) | (rw[hR];exact ⟨rfl,rfl⟩) | (rw[hR]))) :p:=e
theorem Kh {gl:Nat→C} {M0:Nat} {pu:Nat→List C→Option C} {hp:Nat→List C→Hp→Option (C×Hp)} (hcx:CxOK (fj gl M0 pu hp)) (l:List ab) (f:Nat) (S:List cf) (T:List (List UInt8)) (u:Nat) (sh:Bool) (d a b:Nat) (hl:LZ l) (hf:f≤5000) (hS:S.length≤1000000) (hu:u≤S.length) (hT:T.length≤900000 - 2 ^ (d+1)) (hd:d≤12) (hab:a< b∧b≤5000∧b - a≤2 ^ d) (hz:b≤f∨f+l.length≤a∨b - a≤1) (hnr: ∀ (g:Nat) (xs:List C),noRefs 0 xs=false→pu g xs=none) (hn86: ∀xs:List C,(∃b o,C.bp b o∈xs)→hp 86 xs [] =some (.top,[])) (hq86: ∀ (suf:Hp) (T:List (List UInt8)) (S:List cf) (u:Nat) (sh:Bool) (tag:Int) (parts:List (List UInt8)),OkH suf→T.length≤1000000→(cL tag parts).length< 1099511627776→hp 86 [.bp 0 0,.val (.int .i64 tag),sl sC .no parts] ([some [sl sC (.own 1) (T),sl dC .no S,.val (nI (u)),.val (.bool (sh))]]++suf) =some (.agg (cl bC (ofT tag parts)),[some [sl sC (.own 1) (T++[cL tag parts]),sl dC .no S,.val (nI (u)),.val (.bool (sh))]]++suf)) :FC Tryd.prog gl 85 [.bp 0 0,sl eC .no l,.val (nI f),.val (nI a),.val (nI b)] [some [sl sC (.own 1) (T),sl dC .no S,.val (nI (u)),.val (.bool (sh))]] (.agg (cl bC (bX l f S d a b (T,u,sh)).1)) [some [sl sC (.own 1) ((bX l f S d a b (T,u,sh)).2.1),sl dC .no S,.val (nI ((bX l f S d a b (T,u,sh)).2.2.1)),.val (.bool ((bX l f S d a b (T,u,sh)).2.2.2))]] :=by
 replace hcx:=hcx.reN (M:=104)
 refine kz (cx:=fj gl 104 pu hp) (rs:= [.cell 10 29]) rfl Tryd.func85 rfl rfl rfl (by simp only[List.length_cons,List.length_nil];decide) (by simp only[go_sem]) (lj _ _ _ _) ?_
 simp only[cO,go_sem]
 have b1:=True.intro
 have b2:=True.intro
 have hy:=True.intro
 have hgl:=fun k=> (gt S k).2
 have hll:=hl.1
 have en86: ∀ (tag:Nat) (parts:List (List UInt8)),hp 86 [.bp 0 0,.val (nI tag),sl sC .no parts] [] =some (.top,[]) :=fun tag parts=>hn86 _ ⟨0,0,by simp⟩
 have ep86: ∀ (tag:Nat) (parts:List (List UInt8)),pu 86 [.bp 0 0,.val (nI tag),sl sC .no parts] =none:=fun tag parts=>hnr 86 _ rfl
 refine aa hcx [] _ [none] rfl rfl rfl ?_ gh
 refine ae fun K1 hK1=> ?_
 by_cases b1:b≤f
 ·
  refine aa hcx [] [some 14,some 15,some 16,some 17,some 18,some 19,some 20,some 21,some 22,some 23,some 24] [] rfl rfl rfl ?_ gh
  refine ct rfl ?_
  refine ae fun K2 hK2=> ?_
  have hR0:=gS (l:=l) (S:=S) (d:=d) (a:=a) (b:=b) (st:= (T,u,sh)) (Or.inl b1)
  refine bH hcx dJ [] _ [] rfl rfl rfl rfl ?_ mF
  refine Tr.k [0,10,34] ?_
  refine bS rfl (fun hc34=> ?_) (fun hc34=> ?_)
  ·
   have hR:=hR0.trans (Dk hc34)
   refine aa hcx [] _ [] rfl rfl rfl ?_ gh
   refine aa hcx [] _ [] rfl rfl rfl ?_ gh
   exact Tr.ret mG
  have hR:=hR0.trans (r8 hc34)
  refine Tr.skip ?_
  refine hK2 _ ?_
  refine aa hcx [] _ [] rfl rfl rfl ?_ gh
  refine bH hcx dJ [] _ [] rfl rfl rfl rfl ?_ mF
  exact Tr.ret mG
 by_cases b2:f+l.length≤a
 ·
  refine aa hcx [] [some 14,some 15,some 16,some 17,some 18,some 19,some 20,some 21,some 22,some 23,some 24] [] rfl rfl rfl ?_ gh
  refine ct rfl ?_
  refine ae fun K3 hK3=> ?_
  have hR0:=gS (l:=l) (S:=S) (d:=d) (a:=a) (b:=b) (st:= (T,u,sh)) (Or.inr b2)
  refine bH hcx dJ [] _ [] rfl rfl rfl rfl ?_ mF
  refine Tr.k [0,10,34] ?_
  refine bS rfl (fun hc34=> ?_) (fun hc34=> ?_)
  ·
   have hR:=hR0.trans (Dk hc34)
   refine aa hcx [] _ [] rfl rfl rfl ?_ gh
   refine aa hcx [] _ [] rfl rfl rfl ?_ gh
   exact Tr.ret mG
  have hR:=hR0.trans (r8 hc34)
  refine Tr.skip ?_
  refine hK3 _ ?_
  refine aa hcx [] _ [] rfl rfl rfl ?_ gh
  refine bH hcx dJ [] _ [] rfl rfl rfl rfl ?_ mF
  exact Tr.ret mG
 refine aa hcx [] [some 14,some 15,some 16,some 17,some 18,some 19,some 20,some 21,some 22,some 23,some 24] [] rfl rfl rfl ?_ gh
 refine bn rfl ?_
 refine Tr.skip ?_
 refine hK1 _ ?_
 refine ae fun K4 hK4=> ?_
 have h61:b - a=1:=by omega
 have hR:=fl (l:=l) (f:=f) (S:=S) (d:=d) (st:= (T,u,sh)) (fun h=>h.elim b1 b2) (show b - a≤1 by omega)
 have hlb:=hl.2 (a - f) (by omega)
 have e86:=hq86 [some (cl bC (List.replicate 16 0))] T S u sh 3 [(gt l (a - f)).1,(gt l (a - f)).2] (OkH.cons (by rw[ig]) OkH.nil) (by omega) (fU 3 _ _ (by omega) (by omega))
 change hp 86 [C.bp 0 0,.val (nI 3),sl sC .no _] _=some (C.agg (cl bC (fV (gt l (a - f)))),_) at e86
 simp only[List.cons_append,List.nil_append] at e86
 have hy:= @h61
 refine aa hcx [] _ [] rfl rfl rfl ?_ gh
 refine ct rfl ?_
 have hy:=And.intro @e86 @m8
 refine bH hcx dJ [] _ [] rfl rfl rfl rfl ?_ mF
 refine Tr.k [10] ?_
 exact Tr.ret mG
theorem kS {p:Prop} (e:p:=by intro KZ hZ;simp -implicitDefEqProofs (disch:=first|omega| (simp only[go_sem,lA,lD,lT,dx,hgl,ec,dB,hx1,hx2] <;>omega) |decide) only[go_sem,↓reduceIte,Nat.reduceEqDiff,reduceCtorEq,Nat.reduceLT,Nat.reduceBEq,Nat.reduceAdd,ep86,en86,ep85,en85,hy];with_reducible exact hZ) :p:=e
theorem LA {p:Prop} (e:p:=by intro KZ hZ;simp -implicitDefEqProofs (disch:=first|omega| (simp only[go_sem,lA,lD,lT,dx,hgl,ec,dB,hx1,hx2] <;>omega) |decide) only[go_sem,↓reduceIte,Nat.reduceEqDiff,reduceCtorEq,Nat.reduceLT,Nat.reduceBEq,Nat.reduceAdd,ep86,en86,ep85,en85,hy];with_reducible refine And.intro ?_ hZ;first|exact rfl|decide) :p:=e
theorem LD {p:Prop} (e:p:=by simp -implicitDefEqProofs (disch:=first|omega| (simp only[go_sem,lA,lD,lT,dx,hgl,ec,dB,hx1,hx2] <;>omega) |decide) only[go_sem,↓reduceIte,Nat.reduceEqDiff,reduceCtorEq];all_goals (first| (simp only[hR];done) | (rw[hR];exact ⟨rfl,rfl⟩) | (rw[hR]))) :p:=e
theorem WI {gl:Nat→C} {M0:Nat} {pu:Nat→List C→Option C} {hp:Nat→List C→Hp→Option (C×Hp)} (hcx:CxOK (fj gl M0 pu hp)) (l:List ab) (f:Nat) (S:List cf) (T:List (List UInt8)) (u:Nat) (sh:Bool) (d a b:Nat) (hl:LZ l) (hf:f≤5000) (hS:S.length≤1000000) (hu:u≤S.length) (hT:T.length≤900000 - 2 ^ ((d+1)+1)) (hd: (d+1)≤12) (hab:a< b∧b≤5000∧b - a≤2 ^ (d+1)) (hq85: ∀ (suf:Hp) (T:List (List UInt8)) (u:Nat) (sh:Bool) (a b:Nat),OkH suf→T.length≤900000 - 2 ^ (d+1)→u≤S.length→a< b∧b - a≤2 ^ d∧b≤5000→hp 85 [.bp 0 0,sl eC .no l,.val (nI f),.val (nI a),.val (nI b)] ([some [sl sC (.own 1) (T),sl dC .no S,.val (nI (u)),.val (.bool (sh))]]++suf) =some (.agg (cl bC (bX l f S d a b (T,u,sh)).1),[some [sl sC (.own 1) ((bX l f S d a b (T,u,sh)).2.1),sl dC .no S,.val (nI ((bX l f S d a b (T,u,sh)).2.2.1)),.val (.bool ((bX l f S d a b (T,u,sh)).2.2.2))]]++suf)) (hz1: ¬b≤f) (hz2: ¬f+l.length≤a) (hz3: ¬b - a≤1) (hnr: ∀ (g:Nat) (xs:List C),noRefs 0 xs=false→pu g xs=none) (hn86: ∀xs:List C,(∃b o,C.bp b o∈xs)→hp 86 xs [] =some (.top,[])) (hq86: ∀ (suf:Hp) (T:List (List UInt8)) (S:List cf) (u:Nat) (sh:Bool) (tag:Int) (parts:List (List UInt8)),OkH suf→T.length≤1000000→(cL tag parts).length< 1099511627776→hp 86 [.bp 0 0,.val (.int .i64 tag),sl sC .no parts] ([some [sl sC (.own 1) (T),sl dC .no S,.val (nI (u)),.val (.bool (sh))]]++suf) =some (.agg (cl bC (ofT tag parts)),[some [sl sC (.own 1) (T++[cL tag parts]),sl dC .no S,.val (nI (u)),.val (.bool (sh))]]++suf)) (hn85: ∀xs:List C,(∃b o,C.bp b o∈xs)→hp 85 xs [] =some (.top,[])) (h84: ∀h:List UInt8,h.length=16→pu 84 [.agg (cl bC h)] =some (.val (str h))) (h106: ∀n:Nat,n≤4611686018427387000→pu 106 [.val (nI n)] =some (.val (nI (aV n)))) :FC Tryd.prog gl 85 [.bp 0 0,sl eC .no l,.val (nI f),.val (nI a),.val (nI b)] [some [sl sC (.own 1) (T),sl dC .no S,.val (nI (u)),.val (.bool (sh))]] (.agg (cl bC (bX l f S (d+1) a b (T,u,sh)).1)) [some [sl sC (.own 1) ((bX l f S (d+1) a b (T,u,sh)).2.1),sl dC .no S,.val (nI ((bX l f S (d+1) a b (T,u,sh)).2.2.1)),.val (.bool ((bX l f S (d+1) a b (T,u,sh)).2.2.2))]] :=by
 replace hcx:=hcx.reN (M:=104)
 refine kz (cx:=fj gl 104 pu hp) (rs:= [.cell 10 29]) rfl Tryd.func85 rfl rfl rfl (by simp only[List.length_cons,List.length_nil];decide) (by simp only[go_sem]) (lj _ _ _ _) ?_
 simp only[cO,go_sem]
 have hy:=True.intro
 have hgl:=fun k=> (gt S k).2
 have hll:=hl.1
 have en86: ∀ (tag:Nat) (parts:List (List UInt8)),hp 86 [.bp 0 0,.val (nI tag),sl sC .no parts] [] =some (.top,[]) :=fun tag parts=>hn86 _ ⟨0,0,by simp⟩
 have ep86: ∀ (tag:Nat) (parts:List (List UInt8)),pu 86 [.bp 0 0,.val (nI tag),sl sC .no parts] =none:=fun tag parts=>hnr 86 _ rfl
 have en85: ∀x y:Nat,hp 85 [.bp 0 0,sl eC .no l,.val (nI f),.val (nI x),.val (nI y)] [] =some (.top,[]) :=fun x y=>hn85 _ ⟨0,0,by simp⟩
 have ep85: ∀x y:Nat,pu 85 [.bp 0 0,sl eC .no l,.val (nI f),.val (nI x),.val (nI y)] =none:=fun x y=>hnr 85 _ rfl
 have b1:=hz1
 have b2:=hz2
 have h61: (b - a=1) =False:=eq_false (by omega)
 have hx1:=True.intro
 have hx2:=True.intro
 refine aa hcx [] _ [none] rfl rfl rfl ?_ kS
 refine ae fun K1 hK1=> ?_
 have hy:=And.intro @b1 @b2
 refine aa hcx [] [some 14,some 15,some 16,some 17,some 18,some 19,some 20,some 21,some 22,some 23,some 24] [] rfl rfl rfl ?_ kS
 refine bn rfl ?_
 refine Tr.skip ?_
 refine hK1 _ ?_
 refine ae fun K2 hK2=> ?_
 have hy:= @h61
 refine aa hcx [] _ [] rfl rfl rfl ?_ kS
 refine bn rfl ?_
 refine Tr.skip ?_
 refine hK2 _ ?_
 refine Tr.k [0,1,2,3,4,10] ?_
 have e106:=h106 (b - a) (by omega)
 have hh:=fO (n:=b - a) (by omega)
 have hh2:=fu (by omega) hab.2.2
 have hp2:2 ^ (d+1+1) =2*2 ^ (d+1) :=by rw[Nat.pow_succ];omega
 have hp3:2 ^ (d+1)≤2 ^ 12:=Nat.pow_le_pow_right (by omega) hd
 have hB1:=i8 l f S d a (a+aV (b - a)) (T,u,sh)
 dsimp only at hB1
 have e1:=hq85 [some (cl bC (List.replicate 16 0)),none] T u sh a (a+aV (b - a)) (OkH.cons (ig _) (OkH.cons rfl OkH.nil)) (by omega) hu (by omega)
 obtain ⟨X,hX⟩ : ∃X,X=bX l f S d a (a+aV (b - a)) (T,u,sh) := ⟨_,rfl⟩
 have hXl:X.1.length=16:=by rw[hX];exact gD _ _ _ _ _ _ _
 rw[←hX] at e1 hB1
 have hx1:=hXl
 have e2:=hq85 [some (cl bC (List.replicate 16 0)),some (cl bC X.1),none] X.2.1 X.2.2.1 X.2.2.2 (a+aV (b - a)) b (OkH.cons (ig _) (OkH.cons (ig _) (OkH.cons rfl OkH.nil))) (by omega) (by omega) (by omega)
 obtain ⟨Y,hY⟩ : ∃Y,Y=bX l f S d (a+aV (b - a)) b X.2:= ⟨_,rfl⟩
 have hYl:Y.1.length=16:=by rw[hY];exact gD _ _ _ _ _ _ _
 have hB2:=i8 l f S d (a+aV (b - a)) b X.2
 have eY:bX l f S d (a+aV (b - a)) b (X.2.1,X.2.2.1,X.2.2.2) =Y:=hY.symm
 rw[←hY] at hB2
 rw[eY] at e2
 have hx2:=hYl
 have e84a:=h84 X.1 hXl
 have e84b:=h84 Y.1 hYl
 have e86:=hq86 [some (cl bC (List.replicate 16 0)),some (cl bC X.1),some (cl bC Y.1)] Y.2.1 S Y.2.2.1 Y.2.2.2 4 [X.1,Y.1] (OkH.cons (ig _) (OkH.cons (ig _) (OkH.cons (ig _) OkH.nil))) (by omega) (fU 4 _ _ (by omega) (by omega))
 change hp 86 [C.bp 0 0,.val (nI 4),sl sC .no _] _=some (C.agg (cl bC (iI X.1 Y.1)),_) at e86
 simp only[List.cons_append,List.nil_append] at e1 e2 e86
 have hR:=j6 (l:=l) (f:=f) (S:=S) (d:=d) (st:= (T,u,sh)) (fun h=>h.elim b1 b2) hz3
 rw[←hX,←hY,lh] at hR
 have hy:= @e106
 refine aa hcx [1000084] _ [] rfl rfl rfl ?_ kS
 have hy:= @e1
 refine aa hcx [] _ [none] rfl rfl rfl ?_ kS
 refine Tr.k [0,1,2,4,10,11,12] ?_
 have hy:= @e2
 refine aa hcx [] _ [none] rfl rfl rfl ?_ kS
 have hy:=And.intro @e84a (And.intro @e84b (And.intro @m8 @e86))
 refine bH hcx dJ [] _ [] rfl rfl rfl rfl ?_ LA
 exact Tr.ret LD
end Go.Sx
namespace Go.Sx
open Go.RowKit Go.Proofs
set_option maxRecDepth 100000
set_option maxHeartbeats 8000000
theorem WJ (x:List UInt8) : (List.replicate 1 []).set 0 x= [x] :=rfl
theorem R2:OkH [some (cl bC (List.replicate 16 0))] :=OkH.cons (ig _) OkH.nil
theorem qS (l:List ab) (S:List cf) : ∀d a b st,a< b→b≤l.length→(bX l 0 S d a b st).1= (if b - a≤2 ^ d then dD l d a b else (bX l 0 S d a b st).1)
 |0,a,b,st,h1,h2=>by
  split
  · rename_i h
    rw[fl (by omega) (by simpa using h)];rfl
  · rfl
 |d+1,a,b,st,h1,h2=>by
  split
  · rename_i h
    by_cases e:b - a≤1
    · rw[fl (by omega) e,n7 e];rfl
    · have hh:=fO (n:=b - a) (by omega)
      have hh2:=fu (by omega) h
      rw[j6 (by omega) e,rY e,lh]
      have g1:=qS l S d a (a+aV (b - a)) st (by omega) (by omega)
      have g2:=qS l S d (a+aV (b - a)) b (bX l 0 S d a (a+aV (b - a)) st).2 (by omega) (by omega)
      rw[if_pos (by omega)] at g1 g2
      rw[g1,g2]
  · rfl
theorem r9 {l:List ab} {S:List cf} {d a b:Nat} {st:TS} (h:a< b∧b≤l.length∧b - a≤2 ^ d) : (bX l 0 S d a b st).1=dD l d a b:=by
 rw[qS l S d a b st h.1 h.2.1,if_pos h.2.2]
theorem mH {p:Prop} (e:p:=by intro KZ hZ;simp -implicitDefEqProofs (disch:=first|omega| (simp only[go_sem,lA,lD,lT,hwl,hx1,ec] <;>omega) |decide) only[go_sem,↓reduceIte,Nat.reduceEqDiff,reduceCtorEq,Nat.reduceLT,Nat.reduceBEq,Nat.reduceAdd,ep86,en86,ep85,en85,WJ,e83,e86,hy];with_reducible exact hZ) :p:=e
theorem Dl {p:Prop} (e:p:=by simp -implicitDefEqProofs (disch:=first|omega| (simp only[go_sem,lA,lD,lT,hwl,hx1,ec] <;>omega) |decide) only[go_sem,↓reduceIte,Nat.reduceEqDiff,reduceCtorEq];all_goals (first| (simp only[hR];done) | (rw[hR];exact ⟨rfl,rfl⟩) | (rw[hR]))) :p:=e
theorem aaJ {gl:Nat→C} {M0:Nat} {pu:Nat→List C→Option C} {hp:Nat→List C→Hp→Option (C×Hp)} (hcx:CxOK (fj gl M0 pu hp)) (l:List ab) (f:Nat) (S:List cf) (T:List (List UInt8)) (u:Nat) (sh:Bool) (n:Nat) (hl:LZ l) (hf:f≤5000) (hS:S.length≤1000000) (hu:u≤S.length) (hT:T.length≤800000) (hn:n≤4096) (hnr: ∀ (g:Nat) (xs:List C),noRefs 0 xs=false→pu g xs=none) (hn86: ∀xs:List C,(∃b o,C.bp b o∈xs)→hp 86 xs [] =some (.top,[])) (hq86: ∀ (suf:Hp) (T:List (List UInt8)) (S:List cf) (u:Nat) (sh:Bool) (tag:Int) (parts:List (List UInt8)),OkH suf→T.length≤1000000→(cL tag parts).length< 1099511627776→hp 86 [.bp 0 0,.val (.int .i64 tag),sl sC .no parts] ([some [sl sC (.own 1) (T),sl dC .no S,.val (nI (u)),.val (.bool (sh))]]++suf) =some (.agg (cl bC (ofT tag parts)),[some [sl sC (.own 1) (T++[cL tag parts]),sl dC .no S,.val (nI (u)),.val (.bool (sh))]]++suf)) (hn85: ∀xs:List C,(∃b o,C.bp b o∈xs)→hp 85 xs [] =some (.top,[])) (hq85: ∀ (suf:Hp) (l:List ab) (f:Nat) (S:List cf) (d:Nat) (T:List (List UInt8)) (u:Nat) (sh:Bool) (a b:Nat),OkH suf→LZ l→f≤5000→S.length≤1000000→u≤S.length→T.length≤900000 - 2 ^ (d+1)→d≤12→a< b∧b≤5000∧b - a≤2 ^ d→hp 85 [.bp 0 0,sl eC .no l,.val (nI f),.val (nI a),.val (nI b)] ([some [sl sC (.own 1) (T),sl dC .no S,.val (nI (u)),.val (.bool (sh))]]++suf) =some (.agg (cl bC (bX l f S d a b (T,u,sh)).1),[some [sl sC (.own 1) ((bX l f S d a b (T,u,sh)).2.1),sl dC .no S,.val (nI ((bX l f S d a b (T,u,sh)).2.2.1)),.val (.bool ((bX l f S d a b (T,u,sh)).2.2.2))]]++suf)) (h84: ∀h:List UInt8,h.length=16→pu 84 [.agg (cl bC h)] =some (.val (str h))) (h83: ∀n:Int,-9223372036854775808≤n∧n≤9223372036854775807→pu 83 [.val (.int .i64 n)] =some (sl bC (.own 1) (cX n))) :FC Tryd.prog gl 52 [.bp 0 0,sl eC .no l,.val (nI f),.val (nI n)] [some [sl sC (.own 1) (T),sl dC .no S,.val (nI (u)),.val (.bool (sh))]] (.agg (cl bC (dN l f S n (T,u,sh)).1)) [some [sl sC (.own 1) ((dN l f S n (T,u,sh)).2.1),sl dC .no S,.val (nI ((dN l f S n (T,u,sh)).2.2.1)),.val (.bool ((dN l f S n (T,u,sh)).2.2.2))]] :=by
 replace hcx:=hcx.reN (M:=28)
 refine kz (cx:=fj gl 28 pu hp) (rs:= [.cell 8 29]) rfl Tryd.func52 rfl rfl rfl (by simp only[List.length_cons,List.length_nil];decide) (by simp only[go_sem]) (lj _ _ _ _) ?_
 simp only[cO,go_sem]
 have hy:=True.intro
 have en86: ∀ (tag:Nat) (parts:List (List UInt8)),hp 86 [.bp 0 0,.val (nI tag),sl sC .no parts] [] =some (.top,[]) :=fun tag parts=>hn86 _ ⟨0,0,by simp⟩
 have ep86: ∀ (tag:Nat) (parts:List (List UInt8)),pu 86 [.bp 0 0,.val (nI tag),sl sC .no parts] =none:=fun tag parts=>hnr 86 _ rfl
 have en85: ∀x y:Nat,hp 85 [.bp 0 0,sl eC .no l,.val (nI f),.val (nI x),.val (nI y)] [] =some (.top,[]) :=fun x y=>hn85 _ ⟨0,0,by simp⟩
 have ep85: ∀x y:Nat,pu 85 [.bp 0 0,sl eC .no l,.val (nI f),.val (nI x),.val (nI y)] =none:=fun x y=>hnr 85 _ rfl
 have hll:=hl.1
 have e83:pu 83 [.val (nI n)] =some (sl bC (.own 1) (cX ((n:Nat) :Int))) :=h83 ((n:Nat) :Int) (by omega)
 have hwl:=l7 n (by omega)
 have hx1:=True.intro
 have e86:=True.intro
 refine aa hcx [] _ [none] rfl rfl rfl ?_ mH
 refine aa hcx [1000013] _ [] rfl rfl rfl ?_ mH
 refine ae fun K1 hK1=> ?_
 refine aa hcx [] _ [] rfl rfl rfl ?_ mH
 refine bS rfl (fun hc15=> ?_) (fun hc15=> ?_)
 ·
  have e1:=hq85 [some (cl bC (List.replicate 16 0))] l f S 12 T u sh 0 n R2 hl hf hS hu (by omega) (by omega) (by omega)
  have hB1:=i8 l f S 12 0 n (T,u,sh)
  dsimp only at hB1
  have hR:=mE (l:=l) (f:=f) (S:=S) (st:= (T,u,sh)) (show ¬n=0 by omega)
  obtain ⟨X,hX⟩ : ∃X,X=bX l f S 12 0 n (T,u,sh) := ⟨_,rfl⟩
  have hXl:X.1.length=16:=by rw[hX];exact gD _ _ _ _ _ _ _
  rw[←hX] at e1 hB1 hR
  have hx1:=hXl
  have e84a:=h84 X.1 hXl
  have e86:=hq86 [some (cl bC (List.replicate 16 0))] X.2.1 S X.2.2.1 X.2.2.2 4 [cX ((n:Nat) :Int),X.1] R2 (by omega) (fU 4 _ _ (by omega) (by omega))
  change hp 86 [C.bp 0 0,.val (nI 4),sl sC .no _] _=_ at e86
  simp only[List.cons_append,List.nil_append] at e1 e86
  have hy:=And.intro @e1 @e84a
  refine bG hcx [16,1000024] _ [] rfl rfl rfl ?_ mH
  refine hK1 _ ?_
  have hy:=True.intro
  refine aa hcx [] _ [] rfl rfl rfl ?_ mH
  exact Tr.ret Dl
 have h0:n=0:=by omega
 have hR:=n8 (l:=l) (f:=f) (S:=S) (st:= (T,u,sh)) h0
 have e86:=hq86 [some (cl bC (List.replicate 16 0))] T S u sh 4 [cX ((n:Nat) :Int)] R2 (by omega) (qM 4 _ (by omega))
 change hp 86 [C.bp 0 0,.val (nI 4),sl sC .no _] _=_ at e86
 simp only[List.cons_append,List.nil_append] at e86
 refine Tr.skip ?_
 refine hK1 _ ?_
 refine aa hcx [] _ [] rfl rfl rfl ?_ mH
 exact Tr.ret Dl
end Go.Sx
namespace Go.Sx
open Go.RowKit Go.Proofs
theorem Ce: ∀a b:List UInt8,Lib.compareBytes a b=fL a b
 | [],[] =>by simp[Lib.compareBytes,fL,i6]
 | [],y::b=>by simp[Lib.compareBytes,fL,rz]
 |x::a,[] =>by simp[Lib.compareBytes,fL,i6]
 |x::a,y::b=>by
  have ih:=Ce a b
  unfold Lib.compareBytes fL
  rw[mn]
  by_cases h:x< y
  · rw[if_pos h,if_pos h];rfl
  · by_cases h':y< x
    · have: ¬ (x::a=y::b) :=fun e=>by injection e with e _;subst e;exact h h'
      rw[if_neg h,if_pos h',if_neg h,if_pos h',if_neg this];rfl
    · have e:x=y:=by
       apply UInt8.toNat_inj.1;rw[UInt8.lt_iff_toNat_lt] at h h';omega
      subst e
      rw[if_neg h,if_neg h,if_neg h,if_neg h,ih,fL]
      simp
theorem YD {gl:Nat→C} (a b:List UInt8) :FC Tryd.prog gl 90 [.val (str a),.val (str b)] [] (.val (.int .i64 (fL a b))) [] :=by
 refine BU (vals:= [str a,str b]) ⟨_,Tryd.func90,rfl,rfl⟩ fun w=> ?_
 refine (Tryd.strings_Compare ⟨a.toArray⟩ ⟨b.toArray⟩ w).mono ?_
 rintro e w' ⟨rfl,rfl⟩
 refine ⟨?_,Below.refl _ _⟩
 simp[Ce]
end Go.Sx
namespace Go.Sx
open Go.RowKit Go.Proofs
set_option maxRecDepth 100000
set_option maxHeartbeats 8000000
def Srt (l:List ab) :Prop:= ∀i j,i< j→j< l.length→bl (gt l i).1 (gt l j).1=true
theorem sZ {l:List ab} : ∀ {n i:Nat},fW l n=true→0< i→i< n→bl (gt l (i - 1)).1 (gt l i).1=true
 |0,i,h,h1,h2=>by omega
 |n+1,i,h,h1,h2=>by
  simp only[fW,Bool.and_eq_true,Bool.or_eq_true,decide_eq_true_eq] at h
  by_cases e:i=n
  · subst e;exact h.2.resolve_left (by omega)
  · exact sZ h.1 h1 (by omega)
theorem Srt.of {l:List ab} (h:fW l l.length=true) :Srt l:=fun i j hij hj=>by
 obtain ⟨k,rfl⟩ : ∃k,j=i+1+k:= ⟨j - (i+1),by omega⟩
 induction k with
 |zero=>have:=sZ h (i:=i+1) (by omega) hj;simpa using this
 |succ k ih=>
  have h1:=ih (by omega) (by omega)
  have h2:=sZ h (i:=i+1+(k+1)) (by omega) hj
  rw[show i+1+(k+1) - 1=i+1+k by omega] at h2
  exact jC h1 h2
theorem fX {l:List ab} (h:cW l=0) :Srt l:=by
 apply Srt.of
 unfold cW at h
 split at h
 · cases h
 · split at h
   · assumption
   · cases h
theorem Srt.take {l:List ab} (h:Srt l) : ∀n,n≤l.length→∀k,(∀x,x< n→bl (gt l x).1 k=true)→fN l k n=n
 |0,_,k,_=>rfl
 |n+1,hn,k,hk=>by rw[rU (by omega) (hk n (by omega)),Srt.take h n (by omega) k (fun x hx=>hk x (by omega))]
theorem qO {l:List ab} {k:List UInt8} {i:Nat} : ∀d,i+d≤l.length→(∀x,i≤x→x< l.length→bl (gt l x).1 k=false)→fN l k (i+d) =fN l k i
 |0,_,_=>rfl
 |d+1,h,h2=>by rw[←Nat.add_assoc,rV (by omega) (h2 _ (by omega) (by omega)),qO d (by omega) h2]
theorem s3 {l:List ab} {k:List UInt8} {i:Nat} (hs:Srt l) (hi:i≤l.length) (h1: ∀x,x< i→bl (gt l x).1 k=true) (h2: ∀x,i≤x→x< l.length→bl (gt l x).1 k=false) :bu l k=i:=by
 obtain ⟨d,hd⟩ : ∃d,l.length=i+d:= ⟨l.length - i,by omega⟩
 unfold bu
 rw[hd,qO d (by omega) h2,Srt.take hs i hi k h1]
def ww (l:List ab) (k:List UInt8) :Bool:=decide (bu l k< l.length∧(gt l (bu l k)).1=k)
theorem yQ (a b:List UInt8) : (fL a b< ((0:Nat) :Int)) = (bl a b=true) :=by
 unfold fL;by_cases h:bl a b=true
 · rw[if_pos h];simp[h]
 · rw[if_neg h];split<;>simp[h]
theorem yR (a b:List UInt8) : (fL a b=0) = (a=b) :=by
 unfold fL;by_cases h:bl a b=true
 · rw[if_pos h]
   have: ¬a=b:=fun e=>by subst e;rw[wu] at h;cases h
   simp[this]
 · rw[if_neg h];by_cases e:a=b<;>simp[e]
theorem yS (a b:List UInt8) : (fL a b= ((0:Nat) :Int)) = (a=b) :=yR a b
theorem OY {l:List ab} {k:List UInt8} {i:Nat} (h:bu l k=i) (b:Bool) (hb:b=decide (i< l.length∧(gt l i).1=k)) :b=ww l k:=by subst h;exact hb
theorem Iz {l:List ab} {k:List UInt8} {h:Nat} (hs:Srt l) (hb:bl (gt l h).1 k=true) (hl:h< l.length) : ∀x,x< h+1→bl (gt l x).1 k=true:=fun x hx=>by
 by_cases e:x=h
 · subst e;exact hb
 · exact jC (hs x h (by omega) hl) hb
theorem IA {l:List ab} {k:List UInt8} {h:Nat} (hs:Srt l) (hb:bl (gt l h).1 k=false) : ∀x,h≤x→x< l.length→bl (gt l x).1 k=false:=fun x hx hl=>by
 by_cases e:x=h
 · subst e;exact hb
 · have h1:=hs h x (by omega) hl
   rw[Bool.eq_false_iff];intro h2
   rw[jC h1 h2] at hb;cases hb
theorem OZ (n:Nat) :n>>>1=n / 2:=by rw[Nat.shiftRight_eq_div_pow]
theorem Cc {p:Prop} (e:p:=by intro KZ hZ;simp -implicitDefEqProofs (disch:=first|omega| (simp only[go_sem,lA,lD,lT] <;>omega) |decide) only[go_sem,↓reduceIte,Nat.reduceEqDiff,reduceCtorEq,Nat.reduceLT,Nat.reduceBEq,Nat.reduceAdd,h90,hy];with_reducible exact hZ) :p:=e
theorem O0 {p:Prop} (e:p:=by simp -implicitDefEqProofs (disch:=first|omega| (simp only[go_sem,lA,lD,lT] <;>omega) |decide) only[go_sem,↓reduceIte,Nat.reduceEqDiff,reduceCtorEq];all_goals (rfl)) :p:=e
theorem YA {gl:Nat→C} {M:Nat} {pu:Nat→List C→Option C} (hcx:CxOK (aO gl M pu)) (h90: ∀a b:List UInt8,pu 90 [.val (str a),.val (str b)] =some (.val (.int .i64 (fL a b)))) (x:ab) (k:List UInt8) :FC Tryd.prog gl 89 [.agg (eC x),.val (str k)] [] (.val (.int .i64 (fL x.1 k))) [] :=by
 replace hcx:=hcx.reN (M:=9)
 refine bZ (cx:=aO gl 9 pu) (rs:= [.tmp 4]) rfl Tryd.func89 rfl rfl rfl (by simp only[List.length_cons,List.length_nil];decide) (by simp only[go_sem]) ?_
 simp only[cO,go_sem]
 have hy:=True.intro
 refine aa hcx [] _ [none] rfl rfl rfl ?_ Cc
 refine aa hcx [1000008] _ [] rfl rfl rfl ?_ Cc
 exact Tr.ret O0
theorem iQ {p:Prop} (e:p:=by intro KZ hZ;simp -implicitDefEqProofs (disch:=first|omega| (simp only[go_sem,lA,lD,lT] <;>omega) |decide) only[go_sem,↓reduceIte,Nat.reduceEqDiff,reduceCtorEq,Nat.reduceLT,Nat.reduceBEq,Nat.reduceAdd,h89,OZ,b1,b2,hy];with_reducible exact hZ) :p:=e
theorem Cd {p:Prop} (e:p:=by simp -implicitDefEqProofs (disch:=first|omega| (simp only[go_sem,lA,lD,lT] <;>omega) |decide) only[go_sem,↓reduceIte,Nat.reduceEqDiff,reduceCtorEq];all_goals (all_goals (rw[←OY hf _ rfl];simp[hf,b2,yR]))) :p:=e
theorem YB {gl:Nat→C} {M:Nat} {pu:Nat→List C→Option C} (hcx:CxOK (aO gl M pu)) (h89: ∀ (x:ab) (k:List UInt8),pu 89 [.agg (eC x),.val (str k)] =some (.val (.int .i64 (fL x.1 k)))) (l:List ab) (k:List UInt8) (hs:Srt l) (hl:l.length≤1000000) :FC Tryd.prog gl 88 [sl eC .no l,.val (str k),.fn 89 []] [] (.tup [.val (nI (bu l k)),.val (.bool (ww l k))]) [] :=by
 replace hcx:=hcx.reN (M:=49)
 refine bZ (cx:=aO gl 49 pu) (rs:= [.tmp 6,.tmp 7]) rfl Tryd.func88 rfl rfl rfl (by simp only[List.length_cons,List.length_nil];decide) (by simp only[go_sem]) ?_
 simp only[cO,go_sem]
 have b1:=True.intro
 have b2:=True.intro
 have hy:=True.intro
 refine aa hcx [] _ [] rfl rfl rfl ?_ iQ
 refine aa hcx [1000013] _ [] rfl rfl rfl ?_ iQ
 refine aa hcx [1000014] _ [] rfl rfl rfl ?_ iQ
 refine Tr.k [0,1,2,8,9,10] ?_
 refine ae fun K1 hK1=> ?_
 refine Tr.blk ?_
 refine cm (α:=Nat×Nat) (fun a=> [(0,?v0_1),(1,?v1_1),(2,?v2_1),(8,?v8_1),(9,.val (nI a.1)),(10,.val (nI a.2))]) (fun a=> ?h_1) (fun a=>a.1≤a.2∧a.2≤l.length∧(∀x,x< a.1→bl (gt l x).1 k=true)∧(∀x,a.2≤x→x< l.length→bl (gt l x).1 k=false)) (fun a=>a.2 - a.1) ((0,l.length)) ⟨Nat.zero_le _,Nat.le_refl _,fun x hx=>absurd hx (Nat.not_lt_zero x),fun x h1 h2=>by omega⟩ ?le_1 ?hh_1 ?bd_1
 case hh_1=>exact rfl
 case le_1=>exact LT
 rintro ⟨i,j⟩ ⟨hi,hj,hlo,hhi⟩
 simp only[] at hi hj hlo hhi
 have hh2: (i+j) / 2*2≤i+j:=by omega
 have hh3:i+j< (i+j) / 2*2+2:=by omega
 obtain ⟨h,hh⟩ : ∃h,h= (i+j) / 2:= ⟨_,rfl⟩
 rw[←hh] at hh2 hh3
 refine ae fun K2 hK2=> ?_
 refine aa hcx [] _ [] rfl rfl rfl ?_ iQ
 refine bS rfl (fun hc17=> ?_) (fun hc17=> ?_)
 ·
  refine Tr.skip ?_
  refine hK2 _ ?_
  refine Tr.blk ?_
  refine ae fun K3 hK3=> ?_
  refine wg hcx [1000023] _ [] rfl rfl rfl ?_
  simp -implicitDefEqProofs (disch:=first|omega| (simp only[go_sem,lA,lD,lT] <;>omega) |decide) only[go_sem,↓reduceIte,Nat.reduceEqDiff,reduceCtorEq,Nat.reduceLT,Nat.reduceBEq,Nat.reduceAdd,h89,OZ,←hh]
  refine hK3 _ ?_
  by_cases b1:bl (gt l h).1 k=true
  ·
   have c1: (fL (gt l h).1 k< ((0:Nat) :Int)) =True:=by rw[yQ,b1];simp
   have hy:= @c1
   refine aa hcx [] _ [] rfl rfl rfl ?_ iQ
   refine ct rfl ?_
   have hy:=True.intro
   refine bG hcx [1000033] _ [] rfl rfl rfl ?_ iQ
   exact ⟨(h+1,j),⟨⟨by simp only[];omega,hj,Iz hs b1 (by omega),hhi⟩,O1⟩,LT,rfl⟩
  have c1: (fL (gt l h).1 k< ((0:Nat) :Int)) =False:=by rw[yQ];simpa using b1
  replace b1:=Bool.eq_false_iff.2 b1
  have hy:= @c1
  refine aa hcx [] _ [] rfl rfl rfl ?_ iQ
  refine bn rfl ?_
  have hy:=True.intro
  refine bG hcx [1000034] _ [] rfl rfl rfl ?_ iQ
  exact ⟨(i,h),⟨⟨by simp only[];omega,by simp only[];omega,hlo,IA hs b1⟩,O1⟩,LT,rfl⟩
 refine Tr.exit ?_
 refine hK1 _ ?_
 by_cases b2:i< l.length
 ·
  have hij:i=j:=by omega
  have hf:=s3 hs (show i≤l.length by omega) hlo (by rw[hij];exact hhi)
  have hy:= @yS
  refine aa hcx [1000035,1000048] [some 35,some 36,some 37,some 38,some 39,some 40,some 41,some 42,some 43,some 44,some 45,some 46,some 47,some 48,some 6,some 7] [] rfl rfl rfl ?_ iQ
  exact Tr.ret Cd
 have hij:i=j:=by omega
 have hf:=s3 hs (show i≤l.length by omega) hlo (by rw[hij];exact hhi)
 have hy:= @yS
 refine aa hcx [1000035,1000048] [some 35,some 36,some 37,some 38,some 39,some 40,some 41,some 42,some 43,some 44,some 45,some 46,some 47,some 48,some 6,some 7] [] rfl rfl rfl ?_ iQ
 exact Tr.ret Cd
theorem wx {p:Prop} (e:p:=by intro KZ hZ;simp -implicitDefEqProofs (disch:=first|omega| (simp only[go_sem,lA,lD,lT] <;>omega) |decide) only[go_sem,↓reduceIte,Nat.reduceEqDiff,reduceCtorEq,Nat.reduceLT,Nat.reduceBEq,Nat.reduceAdd,e88,hy];with_reducible exact hZ) :p:=e
theorem O2 {p:Prop} (e:p:=by simp -implicitDefEqProofs (disch:=first|omega| (simp only[go_sem,lA,lD,lT] <;>omega) |decide) only[go_sem,↓reduceIte,Nat.reduceEqDiff,reduceCtorEq];all_goals (rfl)) :p:=e
theorem YC {gl:Nat→C} {M:Nat} {pu:Nat→List C→Option C} (hcx:CxOK (aO gl M pu)) (h88: ∀ (l:List ab) (k:List UInt8),Srt l→l.length≤1000000→pu 88 [sl eC .no l,.val (str k),.fn 89 []] =some (.tup [.val (nI (bu l k)),.val (.bool (ww l k))])) (l:List ab) (k:List UInt8) (hs:Srt l) (hl:l.length≤1000000) :FC Tryd.prog gl 56 [sl eC .no l,.val (str k)] [] (.val (nI (bu l k))) [] :=by
 replace hcx:=hcx.reN (M:=14)
 refine bZ (cx:=aO gl 14 pu) (rs:= [.tmp 4]) rfl Tryd.func56 rfl rfl rfl (by simp only[List.length_cons,List.length_nil];decide) (by simp only[go_sem]) ?_
 simp only[cO,go_sem]
 have hy:=True.intro
 have e88:=h88 l k hs hl
 refine aa hcx [] _ [] rfl rfl rfl ?_ wx
 refine aa hcx [1000011,1000012] _ [] rfl rfl rfl ?_ wx
 refine aa hcx [1000013] _ [] rfl rfl rfl ?_ wx
 exact Tr.ret O2
end Go.Sx
namespace Go.Sx
open Go.RowKit
section
variable {cx:Cx} {Q:Ex→St→Prop} {e:List (Nat×C)} {h:Hp} {c:Code}
theorem kN (hcx:CxOK cx) (ρ:List Nat) {e':List (Nat×C)} {h':Hp} (H:Tr cx 0 c ⟨A e',h'⟩ Q)
 (hρ:rj 0 ρ:=by exact ⟨by decide,by decide,fun j hj=>absurd hj (Nat.not_lt_zero j)⟩)
 (E: ∀K:List (Nat×C)→Hp→Prop,K e' h'→K (jx (cC ρ) e) (jg ρ h) :=by
   intro KZ hZ
   simp -implicitDefEqProofs only[lO,ky,yn,bh,aC,aq,bf,bg,Option.map_some,Option.map_none,aI,bd,aB,ao,aK,aH,aZ,a0,a7,a8,aL,ba,af,ag,ah,aj,am,an,aJ,aA,↓reduceIte,Nat.reduceEqDiff,reduceCtorEq,Nat.reduceAdd,Nat.zero_add,Nat.one_ne_zero,Nat.zero_ne_one,bc,bj,ar,au,bm,aw,ax]
   with_reducible exact hZ) :Tr cx 0 c ⟨A e,h⟩ Q:=
 Fq hcx ρ hρ (E (fun x y=>Tr cx 0 c ⟨A x,y⟩ Q) H)
end
end Go.Sx
