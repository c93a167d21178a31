/-
   And what follows.
-/
import Derived.Test.YtcpdlhgkdogdjaaDoorPaj
set_option linter.unusedSimpArgs false
set_option linter.unusedVariables false
namespace Go.Sx
open Go.RowKit
section
variable {cx:Cx} {n:Nat} {Q:Ex→St→Prop} {st:St} {G:Gh} {h:Hp} {w:World} {P:Program}
def k7:C→Bool
 | .tup _=>false
 |_=>true
theorem jT {cells:List C}(hl:aR (some cells) =some cells)(k:Nat){c':C}(hc:k7 c'=true):aR (some (cells.set k c')) =some (cells.set k c'):=by
 cases cells with
 |nil=>simp[aR]
 |cons c t=>
  cases k with
  |zero=>
   rw[List.set_cons_zero];unfold aR;split
   . rename_i h2;cases h2;cases hc
   . rfl
  |succ k=>
   rw[List.set_cons_succ];unfold aR at hl ⊢;split at hl
   . cases hl
   . rename_i hn
     split
     . rename_i h2;cases h2;exact absurd rfl (hn _ _)
     . rfl
theorem WorldOK.bxc (H:WorldOK G h w){b k:Nat}{c c':C}{cells:List C}(hb:h.at b=some cells)(hk:cells[k]? =some c)(hc:CLe c c')(ht:k7 c'=true):WorldOK G (h.set b (some (cells.set k c'))) w:=by
 have hlt:=dI hb;have hlive:=jT (fv hb) k ht;have hkl:k< cells.length:=(List.getElem?_eq_some_iff.1 hk).1;refine ⟨H.known,fun b' c2 x=>?_,fun b' blk x=>?_,fun b1 b2 c1 c2 blk x x' y y'=>?_,H.sep,H.tlt,fun b' c2 off s m2 ys blk v x hc2 hm hv=>?_,H.siz,H.mpoT (fun k l x=>(gQ hlt (rI hlive) k l x).2) (fun _ _ _ x=>x) (.refl G),H.mpiT (fun k l x=>(gQ hlt (rI hlive) k l x).2) (fun _ _ _ _ x=>x)⟩
 . rw[cd hlt] at x
   split at x
   . rename_i e;subst e;rw[hlive] at x;cases x
     rcases H.box b' cells hb with ⟨rfl,hE⟩ | ⟨blk,cs,e,q1,q2,q3,q4,q5⟩
     . simp at hkl
     . refine .inr ⟨blk,cs,e,q1,q2,by rw[List.length_set];exact q3,?_,q5⟩
       rw[List.length_set];have hsz:cs.toList.length=cs.size:=by simp
       have hlen: (cells.set k c').length= (cs.toList.take cells.length).length:=by
        rw[List.length_set,List.length_take];omega
       refine RepL.of_get hlen fun i y v hy hv=>?_;rw[List.getElem?_set] at hy;split at hy
       . rename_i e2;subst e2
         (try rw[if_pos hkl] at hy);cases hy
         obtain ⟨v2,hv2,hr⟩:=q4.get k _ hk;rw[hv] at hv2;cases hv2
         exact hc.1 _ _ hr
       . obtain ⟨v2,hv2,hr⟩:=q4.get i _ hy
         rw[hv] at hv2;cases hv2;exact hr
   . exact H.box b' c2 x
 . obtain ⟨⟨c0,hc0⟩,hl⟩:=H.dom b' blk x
   refine ⟨?_,hl⟩;by_cases e:b'=b
   . subst e;exact ⟨_,by rw[List.getElem?_set_self hlt]⟩
   . exact ⟨c0,by rw[List.getElem?_set_ne (fun h=>e h.symm)];exact hc0⟩
 . have key:∀b' c2,Hp.at (h.set b (some (cells.set k c'))) b'=some c2→∃c0,h.at b'=some c0:=fun b' c2 x=>by
    rw[cd hlt] at x;split at x
    . rename_i e;subst e;exact ⟨cells,hb⟩
    . exact ⟨c2,x⟩
   obtain ⟨d1,e1⟩:=key b1 c1 x;obtain ⟨d2,e2⟩:=key b2 c2 x';exact H.inj b1 b2 d1 d2 blk e1 e2 y y'
 . rw[cd hlt] at x
   split at x
   . rename_i e;subst e;rw[hlive] at x;cases x
     rw[List.getElem?_set] at hc2;split at hc2
     . rename_i e2;subst e2
       (try rw[if_pos hkl] at hc2);cases hc2
       rcases hc.2 s m2 ys rfl with rfl|hfull
       . exact H.own b' cells k s m2 ys blk v hb hk hm hv
       . rcases H.box b' cells hb with ⟨rfl,hE⟩ | ⟨blk2,cs,e,q1,q2,q3,q4,q5⟩
         . simp at hkl
         . obtain ⟨v2,hv2,hr⟩:=q4.get k _ hk
           rw[q1] at hm;cases hm
           obtain ⟨fr,q6,q7⟩:=q2;rw[List.getElem?_take_of_lt hkl] at hv2;rw[ul q6 _ _ hv2] at hv;cases hv;obtain ⟨a,rfl⟩:=hfull _ _ hr;exact .inl ⟨a,rfl⟩
     . exact H.own b' cells off s m2 ys blk v hb hc2 hm hv
   . exact H.own b' c2 off s m2 ys blk v x hc2 hm hv
theorem Tr.bxc {c:Code}{e:List (Nat×C)}{h:Hp}(b k:Nat){x:C}(x':C)(cells:List C)(hb:h.at b=some cells)(hk:cells[k]? =some x)(hc:CLe x x')(ht:k7 x'=true)(H:Tr cx n c ⟨A e,h.set b (some (cells.set k x'))⟩ Q):Tr cx n c ⟨A e,h⟩ Q:=fun r hr G w a S R hR=>
 H r hr G w a ⟨S.defers,S.size,S.pre.ok.bxc hb hk hc ht,S.pre.env,S.pre.glob⟩ R hR
end
end Go.Sx
namespace Go.Sx
open Go.RowKit Go.ChangeShapes Go.WideShapes
abbrev aci (α:Type):=α→(H:Type)→List (DataW H)→Prop
structure RdF (P:Program) (fs:List Field) (off z:Nat) {α:Type} (f:α→List C) (R:aci α):Prop where
 rd:∀ {H:Type}{enc:TypeId×Value→H}{W:World}{base:Nat}{sp:Nat→Bool}{held:Bool}{n:Nat}{cs:List Value}{xs:List (DataW H×List MemPlace)},xs.length=fs.length→cs.length=off+z→
  (∀ (i:Nat)(fd:Field),fs[i]? =some fd→DataW.trod enc P W base sp held n fd.type ((cs.drop fd.offset).take (P.cellsOf fd.type)) =xs[i]?)→∃a,R a H (xs.map (·.1))∧RepL (GW W) (f a) (cs.drop off)∧∀u∈cs.drop off,u.oneCell'=true
end Go.Sx
namespace Go.Sx
open Go.RowKit
section
variable {cx:Cx} {n:Nat} {Q:Ex→St→Prop} {e:List (Nat×C)} {h:Hp} {b:Code} {id:Nat} {l:List Oper} {s:St}
theorem Tr.w (hcx:CxOK cx)(apps:List Nat)(dsts:List (Option Nat))(z:Hp)(h1:l.filterMap ct=apps)(h2:l.map (·.dst) =dsts)(h3:ez l=z)(H:Tr cx n b s Q)(E:∀K:St→Prop,K s→run cx apps dsts l h.length e (h++z) [] (fun _ s=>K s)):Tr cx n (.seq (.region id l.toArray false) b) ⟨A e,h⟩ Q:=
 aa fun K hK=>Tr.rg hcx apps dsts z h1 h2 h3 (E K (hK s H))
theorem Tr.v (hcx:CxOK cx)(apps:List Nat)(dsts:List (Option Nat))(z:Hp)(h1:l.filterMap ct=apps)(h2:l.map (·.dst) =dsts)(h3:ez l=z)(H:Q .normal s)(E:∀K:St→Prop,K s→run cx apps dsts l h.length e (h++z) [] (fun _ s=>K s)):Tr cx n (.region id l.toArray false) ⟨A e,h⟩ Q:=
 Tr.rg hcx apps dsts z h1 h2 h3 (E (Q .normal) H)
theorem cf (hcx:CxOK cx)(hm:cx.P.follows .mixedOrders=true)(apps:List Nat)(dsts:List (Option Nat))(z:Hp)(h1:l.filterMap ct=apps)(h2:l.map (·.dst) =dsts)(h3:ez l=z)(hs:d5 l.toArray=true)(H:Tr cx n b s Q)(E:∀K:St→Prop,K s→run cx apps dsts l h.length e (h++z) [] (fun fs s=>fZ l.toArray fs.reverse=true∧K s)):Tr cx n (.seq (.region id l.toArray true) b) ⟨A e,h⟩ Q:=
 aa fun K hK=>xd hcx hm apps dsts z h1 h2 h3 hs (E K (hK s H))
theorem fS (hcx:CxOK cx)(hm:cx.P.follows .mixedOrders=true)(apps:List Nat)(dsts:List (Option Nat))(z:Hp)(h1:l.filterMap ct=apps)(h2:l.map (·.dst) =dsts)(h3:ez l=z)(hs:d5 l.toArray=true)(H:Q .normal s)(E:∀K:St→Prop,K s→run cx apps dsts l h.length e (h++z) [] (fun fs s=>fZ l.toArray fs.reverse=true∧K s)):Tr cx n (.region id l.toArray true) ⟨A e,h⟩ Q:=
 xd hcx hm apps dsts z h1 h2 h3 hs (E (Q .normal) H)
theorem s8 (hcx:CxOK cx)(gs:List Nat)(apps:List Nat)(dsts:List (Option Nat))(z:Hp)(h1:l.filterMap ct=apps)(h2:l.map (·.dst) =dsts)(h3:ez l=z)(H:Tr cx n b s Q)(E:∀K:St→Prop,K s→run (cx.grow gs) apps dsts l h.length e (h++z) [] (fun _ s=>K s)):Tr cx n (.seq (.region id l.toArray false) b) ⟨A e,h⟩ Q:=
 aa fun K hK=>Eu hcx gs apps dsts z h1 h2 h3 (E K (hK s H))
theorem s9 (hcx:CxOK cx)(gs:List Nat)(apps:List Nat)(dsts:List (Option Nat))(z:Hp)(h1:l.filterMap ct=apps)(h2:l.map (·.dst) =dsts)(h3:ez l=z)(H:Q .normal s)(E:∀K:St→Prop,K s→run (cx.grow gs) apps dsts l h.length e (h++z) [] (fun _ s=>K s)):Tr cx n (.region id l.toArray false) ⟨A e,h⟩ Q:=
 Eu hcx gs apps dsts z h1 h2 h3 (E (Q .normal) H)
theorem EF (hcx:CxOK cx)(hm:cx.P.follows .mixedOrders=true)(gs:List Nat)(apps:List Nat)(dsts:List (Option Nat))(z:Hp)(h1:l.filterMap ct=apps)(h2:l.map (·.dst) =dsts)(h3:ez l=z)(hs:d5 l.toArray=true)(H:Tr cx n b s Q)(E:∀K:St→Prop,K s→run (cx.grow gs) apps dsts l h.length e (h++z) [] (fun fs s=>fZ l.toArray fs.reverse=true∧K s)):Tr cx n (.seq (.region id l.toArray true) b) ⟨A e,h⟩ Q:=
 aa fun K hK=>zR hcx hm gs apps dsts z h1 h2 h3 hs (E K (hK s H))
theorem ta (hcx:CxOK cx)(hm:cx.P.follows .mixedOrders=true)(gs:List Nat)(apps:List Nat)(dsts:List (Option Nat))(z:Hp)(h1:l.filterMap ct=apps)(h2:l.map (·.dst) =dsts)(h3:ez l=z)(hs:d5 l.toArray=true)(H:Q .normal s)(E:∀K:St→Prop,K s→run (cx.grow gs) apps dsts l h.length e (h++z) [] (fun fs s=>fZ l.toArray fs.reverse=true∧K s)):Tr cx n (.region id l.toArray true) ⟨A e,h⟩ Q:=
 zR hcx hm gs apps dsts z h1 h2 h3 hs (E (Q .normal) H)
theorem Tr.k (ks:List Nat){c:Code}{e':List (Nat×C)}(H:Tr cx n c ⟨A e',h⟩ Q)(E:∀R:List (Nat×C)→Prop,R e'→R (pk e ks):=by intro RZ hZ;simp only[zE,DV,↓aT,↓reduceIte,Nat.reduceEqDiff,reduceCtorEq];exact hZ):Tr cx n c ⟨A e,h⟩ Q:=
 Tr.kp ks (E (fun x=>Tr cx n c ⟨A x,h⟩ Q) H)
theorem wl {t:Nat}{x y:Code}{d:Bool}(ht:A e t= .val (.bool d))(hd:d=true)(H:Tr cx n x ⟨A e,h⟩ Q):Tr cx n (.cond (.tmp t) x y) ⟨A e,h⟩ Q:=
 aG (ht.trans (by rw[hd])) H
theorem wm {t:Nat}{x y:Code}{d:Bool}(ht:A e t= .val (.bool d))(hd:d=false)(H:Tr cx n y ⟨A e,h⟩ Q):Tr cx n (.cond (.tmp t) x y) ⟨A e,h⟩ Q:=
 aq (ht.trans (by rw[hd])) H
end
theorem LT {p:Prop}(h:p:=by (simp only[aX,aK,↓aT,↓reduceIte,Nat.reduceEqDiff,aE,aM,aF,aN,aO,and_true,true_and];all_goals (repeat' first|exact CLe.refl _|exact True.intro| (refine ay ?_;first|rfl| (simp only[List.take_zero];done)) |exact aV (by omega) |exact aB (by omega) |exact aJ (by omega) |exact aP (by omega) |with_reducible apply And.intro))):p:=h
theorem O1 {p:Prop}(h:p:=by first|omega| (simp only[];omega)):p:=h
theorem tI:True:=True.intro
theorem mA {p:Prop}(e:p:=by simp -implicitDefEqProofs (disch:=first|omega| (simp only[go_sem,lA,lD,lT] <;>omega) |decide) only[go_sem,↓reduceIte,Nat.reduceEqDiff,reduceCtorEq];all_goals (rfl)):p:=e
theorem eN {p:Prop}(e:p:=by intro KZ hZ;simp -implicitDefEqProofs (disch:=first|omega| (simp only[go_sem,lA,lD,lT] <;>omega) |decide) only[go_sem,↓reduceIte,Nat.reduceEqDiff,reduceCtorEq,Nat.reduceLT,Nat.reduceBEq,Nat.reduceAdd,hy];with_reducible exact hZ):p:=e
theorem bz {p:Prop}(e:p:=by intro KZ hZ;simp -implicitDefEqProofs (disch:=first|omega| (simp only[go_sem,lA,lD,lT] <;>omega) |decide) only[go_sem,↓reduceIte,Nat.reduceEqDiff,reduceCtorEq,Nat.reduceLT,Nat.reduceBEq,Nat.reduceAdd,hy];exact hZ):p:=e
theorem BP {p:Prop}(e:p:=by simp -implicitDefEqProofs (disch:=first|omega| (simp only[go_sem,lA,lD,lT] <;>omega) |decide) only[go_sem,↓reduceIte,Nat.reduceEqDiff,reduceCtorEq];all_goals (rw[List.take_of_length_le (by simp[be_len])];rfl)):p:=e
theorem SS {p:Prop}(e:p:=by simp -implicitDefEqProofs (disch:=first|omega| (simp only[go_sem,lA,lD,lT] <;>omega) |decide) only[go_sem,↓reduceIte,Nat.reduceEqDiff,reduceCtorEq];all_goals (unfold wb;rw[wint_pos])):p:=e
theorem ST {p:Prop}(e:p:=by simp -implicitDefEqProofs (disch:=first|omega| (simp only[go_sem,lA,lD,lT,hb1] <;>omega) |decide) only[go_sem,↓reduceIte,Nat.reduceEqDiff,reduceCtorEq];all_goals (rw[List.take_length];rfl)):p:=e
theorem jU {p:Prop}(e:p:=by intro KZ hZ;simp -implicitDefEqProofs (disch:=first|omega| (simp only[go_sem,lA,lD,lT,hgb] <;>omega) |decide) only[go_sem,↓reduceIte,Nat.reduceEqDiff,reduceCtorEq,Nat.reduceLT,Nat.reduceBEq,Nat.reduceAdd,h111,hy];with_reducible exact hZ):p:=e
theorem eO {p:Prop}(e:p:=by intro KZ hZ;simp -implicitDefEqProofs (disch:=first|omega| (simp only[go_sem,lA,lD,lT,hgb] <;>omega) |decide) only[go_sem,↓reduceIte,Nat.reduceEqDiff,reduceCtorEq,Nat.reduceLT,Nat.reduceBEq,Nat.reduceAdd,h101,hgt,hmul,hy];with_reducible exact hZ):p:=e
theorem nv {p:Prop}(e:p:=by simp -implicitDefEqProofs (disch:=first|omega| (simp only[go_sem,lA,lD,lT,hgb] <;>omega) |decide) only[go_sem,↓reduceIte,Nat.reduceEqDiff,reduceCtorEq];all_goals (first| (have hq:=cnt_1 (s:=s) hc17;first| (exact absurd (hq.symm.trans hE) hc17) | (rw[hq];try rfl)) | (have hq:=cnt_2 (s:=s) hc17 hc20;first| (exfalso;omega) | (rw[hq];try rfl)) | (have hq:=cnt_3' hs.1 hc17 hc20 (.inl hgt);first| (exfalso;omega) | (rw[hq];try rfl)) | (have hq:=cnt_3' hs.1 hc17 hc20 (.inr hmul);first| (exfalso;omega) | (rw[hq];try rfl)) | (have hq:=cnt_0' hs.1 hc17 hc20 hmul;first|exact absurd hq hE|rfl))):p:=e
theorem wn {p:Prop}(e:p:=by simp -implicitDefEqProofs (disch:=first|omega| (simp only[go_sem,lA,lD,lT,hgb,hcl] <;>omega) |decide) only[go_sem,↓reduceIte,Nat.reduceEqDiff,reduceCtorEq];all_goals (first| (rw[getB_1 hcE];done) | (rw[getB_1 hcE];simp only[Nat.add_sub_cancel_left]) | (rw[getB_2 hcE];try rfl))):p:=e
theorem La {p:Prop}(e:p:=by simp -implicitDefEqProofs (disch:=first|omega| (simp only[go_sem,lA,lD,lT] <;>omega) |decide) only[go_sem,↓reduceIte,Nat.reduceEqDiff,reduceCtorEq]):p:=e
theorem cX {p:Prop}(e:p:=by intro KZ hZ;simp -implicitDefEqProofs (disch:=first|omega| (simp only[go_sem,lA,lD,lT,hVl] <;>omega) |decide) only[go_sem,↓reduceIte,Nat.reduceEqDiff,reduceCtorEq,Nat.reduceLT,Nat.reduceBEq,Nat.reduceAdd,hVV,hy];with_reducible exact hZ):p:=e
theorem au {p:Prop}(e:p:=by intro KZ hZ;simp -implicitDefEqProofs (disch:=first|omega| (simp only[go_sem,lA,lD,lT] <;>omega) |decide) only[go_sem,↓reduceIte,Nat.reduceEqDiff,reduceCtorEq,Nat.reduceLT,Nat.reduceBEq,Nat.reduceAdd,ge,oke,hgb,hgc,c0,c1,c2,hy];with_reducible exact hZ):p:=e
theorem eD {p:Prop}(e:p:=by simp -implicitDefEqProofs (disch:=first|omega| (simp only[go_sem,lA,lD,lT] <;>omega) |decide) only[go_sem,↓reduceIte,Nat.reduceEqDiff,reduceCtorEq];all_goals (((try (rw[hR]));(try (rw[c1o]));first|exact ⟨rfl,rfl⟩ |exact ⟨True.intro,rfl⟩))):p:=e
theorem m5 {p:Prop}(e:p:=by simp -implicitDefEqProofs (disch:=first|omega| (simp only[go_sem,lA,lD,lT,hm3] <;>omega) |decide) only[go_sem,↓reduceIte,Nat.reduceEqDiff,reduceCtorEq];all_goals ((rw[hR];first|exact ⟨rfl,rfl⟩ |exact ⟨True.intro,rfl⟩ |rfl))):p:=e
theorem pf {p:Prop}(e:p:=by simp -implicitDefEqProofs (disch:=first|omega| (simp only[go_sem,lA,lD,lT] <;>omega) |decide) only[go_sem,↓reduceIte,Nat.reduceEqDiff,reduceCtorEq];all_goals ((rw[hR];first|exact ⟨rfl,rfl⟩ |exact ⟨True.intro,rfl⟩ |rfl))):p:=e
theorem qQ {p:Prop}(e:p:=by simp -implicitDefEqProofs (disch:=first|omega| (simp only[go_sem,lA,lD,lT] <;>omega) |decide) only[go_sem,↓reduceIte,Nat.reduceEqDiff,reduceCtorEq];all_goals (simp[hR])):p:=e
section
variable (a1 b1:Nat) (z1:List Value)
theorem Om (k e:TypeId)(xs:List C):vB (some ⟨.map k e,a1,b1,z1⟩) xs= (cb xs 0).map vp:=rfl
end
section
variable (cx:Cx) (apps:List Nat) (dsts:List (Option Nat)) (l:List Oper) (id id':Nat) (d:Option Nat) (e:List (Nat×C)) (h:Hp) (fs:List FP) (K:List FP→St→Prop) (ty:TypeId) (pos:String) (aft:Array Edge)
theorem On (t:TypeId):run cx apps dsts (⟨d,.makeMap t none,ty,pos,aft,none⟩::l) id e h fs K=AN (dQ cx.N d) (cG cx apps dsts l id id d e h fs K (fK cx.P t)):=
 bT cx apps dsts l id id d e h fs K ty pos aft (.makeMap t none) (fK cx.P t) (by first|rfl| (cases d<;>rfl)) rfl
theorem I7 (t:TypeId)(x y:Operand)(ok:Bool):run cx apps dsts (⟨d,.lookup t x y ok,ty,pos,aft,none⟩::l) id e h fs K=AN (dQ cx.N d) (cG cx apps dsts l id id d e h fs K (eR cx t (on cx e x) (on cx e y) ok)):=
 bT cx apps dsts l id id d e h fs K ty pos aft (.lookup t x y ok) (eR cx t (on cx e x) (on cx e y) ok) (by first|rfl| (cases d<;>rfl)) rfl
theorem I8 (t:TypeId)(m k x:Operand):run cx apps dsts (⟨d,.mapUpdate t m k x,ty,pos,aft,none⟩::l) id e h fs K=AN (dQ cx.N d) (cG cx apps dsts l id id d e h fs K (fL cx t (on cx e m) (on cx e k) (on cx e x))):=
 bT cx apps dsts l id id d e h fs K ty pos aft (.mapUpdate t m k x) (fL cx t (on cx e m) (on cx e k) (on cx e x)) (by first|rfl| (cases d<;>rfl)) rfl
theorem I9 (t t2:TypeId)(m k:Operand):run cx apps dsts (⟨d,.call ⟨.builtin .delete,#[m,k],#[t,t2]⟩,ty,pos,aft,none⟩::l) id e h fs K=AN (dQ cx.N d) (cG cx apps dsts l id id d e h fs K (fM cx t (on cx e m) (on cx e k))):=
 bT cx apps dsts l id id d e h fs K ty pos aft (.call ⟨.builtin .delete,#[m,k],#[t,t2]⟩) (fM cx t (on cx e m) (on cx e k)) (by first|rfl| (cases d<;>rfl)) rfl
theorem SU (f:Hp→Option (C×Hp)):cG cx apps dsts l id id' d e h fs K (some (.mo f)) =vv cx apps dsts l id' d e fs K (f h):=by
 unfold cG vv jp;simp only[aA]
 cases f h with
 |none=>rfl
 |some c=>simp only[Option.map_some,dE,gC];rfl
theorem Ja:vv cx apps dsts l id' d e fs K (sX h) =run cx apps dsts l id' (dR d (.mp h.length) e) (h++[some (dq [])]) ((4,0)::fs) K:=rfl
end
theorem Oo {P:Program}{t kt et:TypeId}(hk:lz P t=some (kt,et)):fK P t=some (.mo sX):=by unfold fK;rw[hk];rfl
theorem Jb (cx:Cx)(t:TypeId)(b:Nat)(k:C)(u:Value)(ok:Bool)(hq:fJ k=some u):eR cx t (.mp b) k ok=some (.mo (nS cx t b u ok)):=by unfold eR;rw[hq]
theorem Oq (cx:Cx)(t:TypeId)(b:Nat)(k x:C)(u:Value)(hq:fJ k=some u):fL cx t (.mp b) k x=some (.mo (qI cx t b u x)):=by unfold fL;rw[hq]
theorem Or (cx:Cx)(t:TypeId)(b:Nat)(k:C)(u:Value)(hq:fJ k=some u):fM cx t (.mp b) k=some (.mo (qJ cx t b u)):=by unfold fM;rw[hq]
theorem xH (o:Option (List C))(h:Hp):Hp.mp (o::h) 0=eK o:=rfl
theorem r9 (o:Option (List C))(h:Hp)(n:Nat):Hp.mp (o::h) (n+1) =Hp.mp h n:=rfl
attribute [go_sem] Om On I7 I8 I9 SU Ja xH r9
def wo (cx:Cx)(g:Nat)(az:List C):Bool→Option Plan
 |true=>some (.rd 0 (rdE cx g az 0))
 |false=>some (.call g az)
theorem Ot (cx:Cx)(l:List Nat)(g:Nat)(az:List C)(o:Option (C×Hp)):mX (cx.grow l) g az none o=wo (cx.grow l) g az (nT l (some (1000000+g))):=by
 have e:∀cy:Cx,mX cy g az none o=wo cy g az (cy.gr (1000000+g)):=fun cy=>by
  unfold mX wo;cases cy.gr (1000000+g) <;>rfl
 exact e (cx.grow l)
theorem Ou (cx:Cx)(g:Nat)(az:List C):wo cx g az true=some (.rd 0 (rdE cx g az 0)):=rfl
attribute [go_sem] Ot Ou
def Jc (t n:Nat):Option Nat→C
 |some j=> .bt j t n
 |none=> .top
theorem mB (ρ:List Nat)(b t n:Nat):aU ρ (.bt b t n) =Jc t n (dA ρ 0 b):=by simp only[aU];cases dA ρ 0 b<;>rfl
theorem iF (t n j:Nat):Jc t n (some j) = .bt j t n:=rfl
theorem iG (t n:Nat):Jc t n none= .top:=rfl
def Jd:Option Nat→C
 |some j=> .mp j
 |none=> .top
theorem mC (ρ:List Nat)(b:Nat):aU ρ (.mp b) =Jd (dA ρ 0 b):=by simp only[aU];cases dA ρ 0 b<;>rfl
theorem iH (j:Nat):Jd (some j) = .mp j:=rfl
theorem iI:Jd none= .top:=rfl
section
variable (cx:Cx) (apps:List Nat) (dsts:List (Option Nat)) (l:List Oper) (id':Nat) (d:Option Nat) (e:List (Nat×C)) (h:Hp) (fs:List FP) (K:List FP→St→Prop)
def BQ (b off:Nat)(cells:List C)(o:Option C):Prop:=match o with
 |none=>False
 |some x=>run cx apps dsts l id' (dR d x e) (h.set b (some (cells.set off x.noR))) ((3,b)::fs) K
theorem EG (b off:Nat)(cells:List C):Di cx apps dsts l id' d e h fs K b off (some cells) =BQ cx apps dsts l id' d e h fs K b off cells (cells[off]?):=rfl
theorem EH (b off:Nat)(cells:List C)(x:C):BQ cx apps dsts l id' d e h fs K b off cells (some x) =run cx apps dsts l id' (dR d x e) (h.set b (some (cells.set off x.noR))) ((3,b)::fs) K:=rfl
end
@[congr] theorem YI {cx:Cx} {apps:List Nat} {dsts:List (Option Nat)} {l:List Oper} {id':Nat} {d:Option Nat} {e:List (Nat×C)} {h:Hp} {fs:List FP} {K:List FP→St→Prop} {b off:Nat} {cells:List C} {p p':Option C} (hp:p=p'):
   BQ cx apps dsts l id' d e h fs K b off cells p=BQ cx apps dsts l id' d e h fs K b off cells p':=by rw[hp]
attribute [go_sem] EG EH
theorem Ov (b:Nat)(r:List C):aR (some (.mp b::r)) =some (.mp b::r):=rfl
theorem SW (b:Nat): (C.mp b).noR= .mp b:=rfl
attribute [go_sem] SW
attribute [go_sem] Ov
end Go.Sx
namespace Go.Sx
end Go.Sx
namespace Go.Sx
open Go.RowKit
theorem jV (n:Nat):∀ (k s b:Nat),dA (List.range' n k) s b=if n≤b∧b< n+k then some (s+(b - n)) else none
 |0,s,b=>by
  rw[if_neg (by omega)];rfl
 |k+1,s,b=>by
  rw[List.range'_succ];simp only[dA];by_cases h:b=n
  . rw[if_pos h,if_pos (by omega)];congr 1;omega
  . rw[if_neg h,jV (n+1) k (s+1) b]
    by_cases h2:n≤b∧b< n+(k+1)
    . rw[if_pos (by omega),if_pos h2];congr 1;omega
    . rw[if_neg (by omega),if_neg h2]
section
variable {n k:Nat}
theorem mD {b:Nat}(h:b< k):dA (List.range' n k) 0 (n+b) =some b:=by
 rw[jV,if_pos (by omega)];congr 1;omega
mutual
theorem YJ:∀c:C,ae k c=true→aU (List.range' n k) (bZ (n+ ·) c) =c
 | .top,_=>by simp only[bZ,aU]
 | .val v,_=>by simp only[bZ,aU]
 | .sv b o m,h=>by simp only[ae,decide_eq_true_eq] at h;simp only[bZ,aU,mD h]
 | .gv b m s,h=>by simp only[ae,decide_eq_true_eq] at h;simp only[bZ,aU,mD h]
 | .bp b o,h=>by simp only[ae,decide_eq_true_eq] at h;simp only[bZ,aU,mD h]
 | .mp b,h=>by simp only[ae,decide_eq_true_eq] at h;simp only[bZ,aU,mD h]
 | .bt b t m,h=>by simp only[ae,decide_eq_true_eq] at h;simp only[bZ,aU,mD h]
 | .sl r m xs,h=>by simp only[ae] at h;simp only[bZ,aU,mv_bks xs h]
 | .kp xs,h=>by simp only[ae] at h;simp only[bZ,aU,mv_bks xs h]
 | .agg xs,h=>by simp only[ae] at h;simp only[bZ,aU,mv_bks xs h]
 | .tup xs,h=>by simp only[ae] at h;simp only[bZ,aU,mv_bks xs h]
 | .fn f xs,h=>by simp only[ae] at h;simp only[bZ,aU,mv_bks xs h]
theorem mv_bks:∀l:List C,noRefs k l=true→mvCs (List.range' n k) (bkCs (n+ ·) l) =l
 | [],_=>by simp only[bkCs,mvCs]
 |x::l,h=>by
  simp only[noRefs,Bool.and_eq_true] at h;simp only[bkCs,mvCs,YJ x h.1,mv_bks l h.2]
end
end
def dS (n:Nat)(h:Hp):Hp:=h.map (Option.map (bkCs (n+ ·)))
theorem zX {r:Nat→Nat}{o:Option (List C)}(h: (aR o).isSome=true): (aR (o.map (bkCs r))).isSome=true:=by
 cases o with
 |none=>exact h
 |some cells=>
  cases cells with
  |nil=>rfl
  |cons c l=>cases c<;>first|rfl| (simp only[aR] at h;cases h)
theorem Lb {r:Nat→Nat}{o:Option (List C)}(h: (eK o).isSome=true): (eK (o.map (bkCs r))).isSome=true:=by
 obtain ⟨l,hl⟩:=Option.isSome_iff_exists.1 h;unfold eK at hl;split at hl
 . cases hl;rfl
 . cases hl
theorem FC.pre {P:Program}{gl:Nat→C}{f:Nat}{args:List C}{c:C}{X h':Hp}(hf:FC P gl f args X c h')(pre:Hp)(hpre:∀o∈pre,da o=true)(hX:∀o∈X,((aR o).isSome|| (eK o).isSome) =true)
 (hn:noRefs X.length args=true) (hnX:∀o∈X,∀cells,o=some cells→noRefs X.length cells=true) (hk:X.length≤h'.length) (hg:∀g,ae 0 (gl g) =true):
 FC P gl f (bkCs (pre.length+ ·) args) (pre++dS pre.length X) (bZ (pre.length+ ·) c) (pre++dS pre.length h'):=by
 have hρl: (List.range' pre.length X.length).length=X.length:=by simp
 have hHl: (pre++dS pre.length X).length=pre.length+X.length:=by simp[dS]
 have hget:∀i,(pre++dS pre.length X)[pre.length+i]? = (X[i]?).map (Option.map (bkCs (pre.length+ ·))):=fun i=>by
  rw[List.getElem?_append_right (by omega)];unfold dS;rw[List.getElem?_map,show pre.length+i - pre.length=i by omega]
 have hmv:jh (List.range' pre.length X.length) (pre++dS pre.length X) =X:=by
  unfold jh;apply List.ext_getElem?;intro i;rw[List.getElem?_map];by_cases hi:i< X.length
  . rw[List.getElem?_range' hi,Option.map_some,Nat.one_mul,hget]
    rw[List.getElem?_eq_getElem hi];simp only[Option.map_some,Option.getD_some];congr 1
    cases hx:X[i] with
    |none=>rfl
    |some cells=>
     simp only[Option.map_some];congr 1
     exact mv_bks cells (hnX _ (List.getElem_mem hi) cells hx)
  . rw[List.getElem?_eq_none (by rw[hρl];omega),List.getElem?_eq_none (by omega)];rfl
 have hR:g6 (List.range' pre.length X.length) (pre++dS pre.length X).length= (pre.length+ ·):=by
  funext i
  unfold g6;by_cases hi:i< X.length
  . rw[List.getElem?_range' hi];simp
  . rw[List.getElem?_eq_none (by rw[hρl];omega)]
    simp only[hρl,hHl];omega
 have:=pU (P:=P) (gl:=gl) (f:=f) (args:=bkCs (pre.length+ ·) args) (c:=c) (H:=pre++dS pre.length X) (h':=h') (List.range' pre.length X.length) List.nodup_range' (fun b hb=>by
  obtain ⟨h1,h2⟩:=List.mem_range'_1.1 hb;obtain ⟨i,rfl⟩:∃i,b=pre.length+i:=⟨b - pre.length,by omega⟩;have hi:i< X.length:=by omega
  have h3:=hX _ (List.getElem_mem hi);simp only[Bool.or_eq_true] at h3;unfold Hp.at Hp.mp;rw[hget,List.getElem?_eq_getElem hi];exact h3.imp (fun h=>zX h) (fun h=>Lb h))
  (fun b hb hnb=>by
    rw[hHl] at hb;have hlt:b< pre.length:=by
     rcases Nat.lt_or_ge b pre.length with h|h
     . exact h
     . exact (hnb (List.mem_range'_1.2 ⟨h,by omega⟩)).elim
    have h3:=hpre _ (List.getElem_mem hlt);unfold Hp.at Hp.mp;rw[List.getElem?_append_left hlt,List.getElem?_eq_getElem hlt];simp only[da,Bool.or_eq_true] at h3;rcases h3 with (h|h) |h
    . exact .inl h
    . exact .inr (.inl h)
    . exact .inr (.inr (by congr 1;exact Option.isNone_iff_eq_none.1 h)))
  (by rw[hmv,mv_bks args hn];exact hf) hg
 rw[hR] at this;have hH:mS (List.range' pre.length X.length) (pre++dS pre.length X) h'=pre++dS pre.length h':=by
  have hS:mS (List.range' pre.length X.length) (pre++dS pre.length X) h'= ((List.range (pre.length+X.length)).map fun b=>match dA (List.range' pre.length X.length) 0 b with
   |some i=>((h'[i]?).getD none).map (bkCs (pre.length+ ·))
   |none=>((pre++dS pre.length X)[b]?).getD none)++(h'.drop X.length).map (Option.map (bkCs (pre.length+ ·))):=by
   unfold mS;rw[hR,hHl,hρl] <;>rfl
  rw[hS,List.range_add,List.map_append,List.append_assoc];congr 1
  . apply List.ext_getElem?
    intro i;rw[List.getElem?_map];by_cases hi:i< pre.length
    . rw[List.getElem?_range hi,Option.map_some,jV,if_neg (by omega)]
      simp only[];rw[List.getElem?_append_left hi,List.getElem?_eq_getElem hi];rfl
    . rw[List.getElem?_eq_none (by simp;omega),List.getElem?_eq_none (by omega)];rfl
  . unfold dS
    rw[List.map_map]
    conv=>rhs;rw[←List.take_append_drop X.length h',List.map_append]
    congr 1
    apply List.ext_getElem?;intro i;rw[List.getElem?_map,List.getElem?_map,List.getElem?_take];by_cases hi:i< X.length
    . rw[List.getElem?_range hi,if_pos hi,List.getElem?_eq_getElem (by omega)]
      simp only[Option.map_some,Function.comp,mD hi];rw[List.getElem?_eq_getElem (by omega)];rfl
    . rw[List.getElem?_eq_none (by simp;omega),if_neg hi];rfl
 rw[hH] at this;exact this
theorem acj {P:Program}{gl:Nat→C}{f:Nat}{args:List C}{c:C}{h':Hp}(he:jB P f)(b t n:Nat)(l:List C)(ha:args= .bt b t n::l):FC P gl f args [] c h':=by
 refine ⟨he,fun G w vs W _ _ hr=>?_⟩;subst ha;simp only[RepL,Rep] at hr;obtain ⟨v,vs',_,⟨blk,h1,_⟩,_⟩:=hr;obtain ⟨⟨c,hc⟩,_⟩:=W.dom b blk h1;cases hc
def mE (n k s:Nat)(i:Nat):Nat:=if i< k then n+i else n+s+i
theorem SX {P:Program}{gl:Nat→C}{f:Nat}{args:List C}{c:C}{X h':Hp}(hf:FC P gl f args X c h')(pre suf:Hp)(hpre:∀o∈pre,da o=true)(hsuf:∀o∈suf,da o=true)(hX:∀o∈X,((aR o).isSome|| (eK o).isSome) =true)
 (hn:noRefs X.length args=true) (hnX:∀o∈X,∀cells,o=some cells→noRefs X.length cells=true) (hk:X.length≤h'.length) (hg:∀g,ae 0 (gl g) =true):
 FC P gl f (bkCs (pre.length+ ·) args) (pre++(dS pre.length X++suf)) (bZ (mE pre.length X.length suf.length) c)
  (pre++((h'.take X.length).map (Option.map (bkCs (mE pre.length X.length suf.length)))++(suf++(h'.drop X.length).map (Option.map (bkCs (mE pre.length X.length suf.length)))))):=by
 have hρl: (List.range' pre.length X.length).length=X.length:=by simp
 have hHl: (pre++(dS pre.length X++suf)).length=pre.length+(X.length+suf.length):=by simp[dS]
 have hget:∀i,i< X.length→(pre++(dS pre.length X++suf))[pre.length+i]? = (X[i]?).map (Option.map (bkCs (pre.length+ ·))):=fun i hi=>by
  rw[List.getElem?_append_right (by omega),show pre.length+i - pre.length=i by omega,List.getElem?_append_left (by simp[dS];omega)];unfold dS;rw[List.getElem?_map]
 have hmv:jh (List.range' pre.length X.length) (pre++(dS pre.length X++suf)) =X:=by
  unfold jh;apply List.ext_getElem?;intro i;rw[List.getElem?_map];by_cases hi:i< X.length
  . rw[List.getElem?_range' hi,Option.map_some,Nat.one_mul,hget i hi]
    rw[List.getElem?_eq_getElem hi];simp only[Option.map_some,Option.getD_some];congr 1
    cases hx:X[i] with
    |none=>rfl
    |some cells=>
     simp only[Option.map_some];congr 1
     exact mv_bks cells (hnX _ (List.getElem_mem hi) cells hx)
  . rw[List.getElem?_eq_none (by rw[hρl];omega),List.getElem?_eq_none (by omega)];rfl
 have hR:g6 (List.range' pre.length X.length) (pre++(dS pre.length X++suf)).length=mE pre.length X.length suf.length:=by
  funext i
  unfold g6 mE;by_cases hi:i< X.length
  . rw[List.getElem?_range' hi,if_pos hi];simp
  . rw[List.getElem?_eq_none (by rw[hρl];omega),if_neg hi]
    simp only[hρl,hHl];omega
 have:=pU (P:=P) (gl:=gl) (f:=f) (args:=bkCs (pre.length+ ·) args) (c:=c) (H:=pre++(dS pre.length X++suf)) (h':=h') (List.range' pre.length X.length) List.nodup_range' (fun b hb=>by
  obtain ⟨h1,h2⟩:=List.mem_range'_1.1 hb;obtain ⟨i,rfl⟩:∃i,b=pre.length+i:=⟨b - pre.length,by omega⟩;have hi:i< X.length:=by omega
  have h3:=hX _ (List.getElem_mem hi);simp only[Bool.or_eq_true] at h3;unfold Hp.at Hp.mp;rw[hget i hi,List.getElem?_eq_getElem hi];exact h3.imp (fun h=>zX h) (fun h=>Lb h))
  (fun b hb hnb=>by
    rw[hHl] at hb;have key:∃o,(pre++(dS pre.length X++suf))[b]? =some o∧da o=true:=by
     rcases Nat.lt_or_ge b pre.length with h|h
     . exact ⟨_,by rw[List.getElem?_append_left h,List.getElem?_eq_getElem h],hpre _ (List.getElem_mem h)⟩
     . have h2:pre.length+X.length≤b:=by
        rcases Nat.lt_or_ge b (pre.length+X.length) with h2|h2
        . exact (hnb (List.mem_range'_1.2 ⟨h,h2⟩)).elim
        . exact h2
       have h3:b - pre.length - X.length< suf.length:=by omega
       refine ⟨suf[b - pre.length - X.length],?_,hsuf _ (List.getElem_mem h3)⟩;rw[List.getElem?_append_right h,List.getElem?_append_right (by simp[dS];omega)];rw[show (dS pre.length X).length=X.length by simp[dS],List.getElem?_eq_getElem h3]
    obtain ⟨o,ho,h3⟩:=key;unfold Hp.at Hp.mp;rw[ho];simp only[da,Bool.or_eq_true] at h3;rcases h3 with (h|h) |h
    . exact .inl h
    . exact .inr (.inl h)
    . exact .inr (.inr (by congr 1;exact Option.isNone_iff_eq_none.1 h)))
  (by rw[hmv,mv_bks args hn];exact hf) hg
 rw[hR] at this;have hH:mS (List.range' pre.length X.length) (pre++(dS pre.length X++suf)) h'=pre++((h'.take X.length).map (Option.map (bkCs (mE pre.length X.length suf.length)))++(suf++(h'.drop X.length).map (Option.map (bkCs (mE pre.length X.length suf.length))))):=by
  have hS:mS (List.range' pre.length X.length) (pre++(dS pre.length X++suf)) h'= ((List.range (pre.length+(X.length+suf.length))).map fun b=>match dA (List.range' pre.length X.length) 0 b with
   |some i=>((h'[i]?).getD none).map (bkCs (mE pre.length X.length suf.length))
   |none=>((pre++(dS pre.length X++suf))[b]?).getD none)++(h'.drop X.length).map (Option.map (bkCs (mE pre.length X.length suf.length))):=by
   unfold mS;rw[hR,hHl,hρl] <;>rfl
  rw[hS,List.range_add,List.range_add,List.map_append,List.map_append,List.map_append,List.append_assoc,List.append_assoc];congr 1
  . apply List.ext_getElem?
    intro i;rw[List.getElem?_map];by_cases hi:i< pre.length
    . rw[List.getElem?_range hi,Option.map_some,jV,if_neg (by omega)]
      simp only[];rw[List.getElem?_append_left hi,List.getElem?_eq_getElem hi];rfl
    . rw[List.getElem?_eq_none (by simp;omega),List.getElem?_eq_none (by omega)];rfl
  . congr 1
    . apply List.ext_getElem?
      intro i;rw[List.map_map,List.getElem?_map,List.getElem?_map,List.getElem?_take];by_cases hi:i< X.length
      . rw[List.getElem?_range hi,if_pos hi,List.getElem?_eq_getElem (by omega)]
        simp only[Option.map_some,Function.comp,mD hi];rw[List.getElem?_eq_getElem (by omega)];rfl
      . rw[List.getElem?_eq_none (by simp;omega),if_neg hi];rfl
    . congr 1
      apply List.ext_getElem?;intro i;rw[List.map_map,List.map_map,List.getElem?_map];by_cases hi:i< suf.length
      . rw[List.getElem?_range hi]
        simp only[Option.map_some,Function.comp];rw[jV,if_neg (by omega)];simp only[];rw[List.getElem?_append_right (by omega),List.getElem?_append_right (by simp[dS] <;>omega)];rw[show pre.length+(X.length+i) - pre.length - (dS pre.length X).length=i by simp[dS] <;>omega,List.getElem?_eq_getElem hi];rfl
      . rw[List.getElem?_eq_none (by simp;omega),List.getElem?_eq_none (by omega)];rfl
 rw[hH] at this;exact this
def Lc (cx:Cx)(rs:List ResultVar)(c:C)(k:Nat)(h':Hp):Ex→St→Prop
 | .exit _,_=>False
 |_,st=>jN cx st rs=some c∧st.h.take k=h'
theorem Ox (cx:Cx)(rs:List ResultVar)(c:C)(k:Nat)(h':Hp)(st:St):Lc cx rs c k h' .ret st= (jN cx st rs=some c∧st.h.take k=h'):=rfl
def jG (k:Nat):Hp→Bool
 | [] =>true
 |none::l=>jG k l
 |some cells::l=>noRefs k cells && jG k l
theorem uH (k:Nat):∀ (h:Hp),jG k h=true→∀ (b:Nat)(cells:List C),h[b]? =some (some cells)→noRefs k cells=true
 | [],_,b,cells,hb=>by simp at hb
 |o::l,h,0,cells,hb=>by
  simp at hb;subst hb
  simp only[jG,Bool.and_eq_true] at h;exact h.1
 |o::l,h,b+1,cells,hb=>by
  refine uH k l ?_ b cells (by simpa using hb)
  cases o with
  |none=>exact h
  |some c=>simp only[jG,Bool.and_eq_true] at h;exact h.2
theorem zY (k:Nat):jG k [] =true:=rfl
theorem xL (k:Nat)(cells:List C)(l:Hp):jG k (some cells::l) = (noRefs k cells && jG k l):=rfl
theorem Oy {k:Nat}{h:Hp}(hh:jG k h=true):∀o∈h,∀cells,o=some cells→noRefs k cells=true:=fun o ho cells e=>by
 subst e;obtain ⟨b,hb⟩:=List.getElem?_of_mem ho;exact uH k h hh b cells hb
theorem n5 {cx:Cx} {f:Nat} {fn:Func} {code:Code} {args:List C} {h h':Hp} {c:C} {rs:List ResultVar} (hN:cx.N=fn.ntmps) (hf:cx.P.funcs[f]? =some fn) (hn: (fn.name== "runtime.NumGoroutine") =false) (hb:fn.body=some code)
 (hrs:fn.results=rs.toArray) (hlen:args.length≤fn.ntmps) (hc:ae h.length c=true) (hh:jG h.length h'=true) (hT:Tr cx h.length code ⟨A (bj 0 args),h⟩ (Lc cx rs c h.length h')):FC cx.P cx.gl f args h c h':=by
 refine FC.of hN hf hn hb hlen ?_;refine Tr.weaken (fun t=>CLe.init args t) (hT.mono fun x st q=>?_);have key:jN cx st rs=some c∧st.h.take h.length=h'→results cx fn st=some c∧((st.h.take h.length=h'∧ae h.length c=true∧∀ (b:Nat) cells,b< h.length→st.h[b]? =some (some cells)→noRefs h.length cells=true)∨st.h=h'):=fun q=>by
  refine ⟨?_,.inl ⟨q.2,hc,fun b cells hb hx=>uH _ _ hh b cells ?_⟩⟩
  . rw[←q.1]
    unfold results;rw[hrs];rcases rs with _| ⟨r,_| ⟨r2,rs⟩⟩ <;>rfl
  . rw[←q.2,List.getElem?_take,if_pos hb];exact hx
 cases x with
 |exit k=>exact q
 |normal=>exact key q
 |ret=>exact key q
attribute [go_sem] Ox zY xL
section
variable {cx:Cx} {n:Nat} {st:St} {Q:Ex→St→Prop} {G:Gh} {w:World} {h:Hp} {b:Nat} {cells:List C}
mutual
theorem pg (H:WorldOK G h w)(hb:h.at b=some cells){ys:List C}(hys:∀blk,G.μ b=some blk→RepK (cI G w b cells.length) blk 0 ys):∀ (c:C)(v:Value),Rep G c v→Rep (cI G w b cells.length) (bh (dn h b) b ys c) v
 | .top,_,_=>by simp[bh,Rep]
 | .val u,v,r=>by simpa[bh,Rep] using r
 | .sl r n xs,v,x=>by
   simp only[bh,Rep] at x ⊢;obtain ⟨a,cap,h1,h2,h3,h4,h5⟩:=x;refine ⟨a,cap,h1,h2,h3,h4,?_⟩;rcases h5 with h5| ⟨blk,off,ha,hk⟩
   . left;rw[h5];rfl
   . exact .inr ⟨blk,off,ha,fzC_repKY H hb hys xs blk off hk⟩
 | .sv b' off n,v,x=>by
   simp only[bh];split
   . rename_i e
     subst e;split
     . rename_i hle
       simp only[Rep] at x ⊢;obtain ⟨a,cap,h1,h2,h3,h4⟩:=x;refine ⟨a,cap,h1,h2,h3,by simp,?_⟩;by_cases hn:n=0
       . left;subst hn;simp
       . right
         obtain ⟨blk,q1,q2⟩:=h4 hn;refine ⟨blk,off,q2,?_⟩;have:=(hys _ q1).drop off;rw[Nat.zero_add] at this;exact this.take n
     . simp[Rep]
   . split
     . rename_i hok
       simp only[Rep] at x ⊢;obtain ⟨a,cap,h1,h2,h3,h4⟩:=x;exact ⟨a,cap,h1,h2,h3,fun hz=>by obtain ⟨blk,q1,q2⟩:=h4 hz;exact ⟨blk,eC H hb hok q1,q2⟩⟩
     . simp[Rep]
 | .gv b' m s,v,x=>by
   simp only[bh];split
   . rename_i e
     subst e;split
     . rename_i hle
       simp only[Rep] at x ⊢;obtain ⟨a,cap,h1,h2,h3,h4⟩:=x;refine ⟨a,cap,h1,h2,h3,by simp,?_⟩;rcases h4 with ⟨rfl,_⟩ | ⟨blk,q1,q2,q3⟩
       . left;simp
       . right
         exact ⟨blk,0,q2,(hys _ q1).take _⟩
     . simp[Rep]
   . split
     . rename_i hok
       simp only[Rep] at x ⊢;obtain ⟨a,cap,h1,h2,h3,h4⟩:=x;refine ⟨a,cap,h1,h2,h3,?_⟩;rcases h4 with h4| ⟨blk,q1,q2,q3⟩
       . exact .inl h4
       . exact .inr ⟨blk,eC H hb hok q1,q2,pd H hb hok q3⟩
     . simp[Rep]
 | .mp b',v,x=>by
   simp only[bh];split
   . simp[Rep]
   . split
     . rename_i hok
       simp only[Rep] at x ⊢;obtain ⟨blk,h1,h2⟩:=x;exact ⟨blk,eC H hb hok h1,h2⟩
     . simp[Rep]
 | .bt b' t n,v,x=>by
   simp only[bh];split
   . simp[Rep]
   . split
     . rename_i hok
       simp only[Rep] at x ⊢;obtain ⟨blk,h1,h2,h3⟩:=x;exact ⟨blk,eC H hb hok h1,h2,pd H hb hok h3⟩
     . simp[Rep]
 | .bp b' off,v,x=>by
   simp only[bh];split
   . rename_i e
     subst e;simp only[Rep] at x ⊢;obtain ⟨blk,h1,h2⟩:=x;refine ⟨blk,off,h2,?_⟩;have:=(hys _ h1).drop off
     rwa [Nat.zero_add] at this
   . split
     . rename_i hok
       simp only[Rep] at x ⊢;obtain ⟨blk,h1,h2⟩:=x;exact ⟨blk,eC H hb hok h1,h2⟩
     . simp[Rep]
 | .kp xs,v,x=>by
   simp only[bh,Rep] at x ⊢;obtain ⟨blk,off,h1,h2⟩:=x;exact ⟨blk,off,h1,fzC_repKY H hb hys xs blk off h2⟩
 | .agg xs,v,x=>by
   simp only[bh,Rep] at x ⊢;obtain ⟨vs,h1,h2,h3⟩:=x;exact ⟨vs,h1,fzC_repLY H hb hys xs _ h2,h3⟩
 | .tup xs,v,x=>by
   simp only[bh,Rep] at x ⊢;obtain ⟨vs,h1,h2⟩:=x;exact ⟨vs,h1,fzC_repLY H hb hys xs _ h2⟩
 | .fn f xs,v,x=>by
   simp only[bh,Rep] at x ⊢;obtain ⟨vs,h1,h2⟩:=x;exact ⟨vs,h1,fzC_repLY H hb hys xs _ h2⟩
theorem fzC_repLY (H:WorldOK G h w)(hb:h.at b=some cells){ys:List C}(hys:∀blk,G.μ b=some blk→RepK (cI G w b cells.length) blk 0 ys):∀ (xs:List C)(vs:List Value),RepL G xs vs→RepL (cI G w b cells.length) (fzCs (dn h b) b ys xs) vs
 | [],vs,r=>by simpa[fzCs,RepL] using r
 |x::xs,vs,r=>by
  simp only[fzCs,RepL] at r ⊢;obtain ⟨v,vs',h1,h2,h3⟩:=r;exact ⟨v,vs',h1,pg H hb hys x v h2,fzC_repLY H hb hys xs vs' h3⟩
theorem fzC_repKY (H:WorldOK G h w)(hb:h.at b=some cells){ys:List C}(hys:∀blk,G.μ b=some blk→RepK (cI G w b cells.length) blk 0 ys):∀ (xs:List C)(blk off:Nat),RepK G blk off xs→RepK (cI G w b cells.length) blk off (fzCs (dn h b) b ys xs)
 | [],_,_,_=>by simp[fzCs,RepK]
 |x::xs,blk,off,r=>by
  simp only[fzCs,RepK] at r ⊢;obtain ⟨⟨u,h1,h2,h3⟩,h4⟩:=r;exact ⟨⟨u,(qO H _).K _ _ _ h1,h2,pg H hb hys x u h3⟩,fzC_repKY H hb hys xs blk (off+1) h4⟩
end
theorem vL (H:WorldOK G h w)(hb:h.at b=some cells){ys:List C}(hys:∀blk,G.μ b=some blk→RepK (cI G w b cells.length) blk 0 ys):∀ (l:List C)(es:List MapEntry),MRep G l es→MRep (cI G w b cells.length) (fzCs (dn h b) b ys l) es
 | [],_,r=>by simpa[MRep,fzCs] using r
 | [_],_,r=>by simp[MRep] at r
 |k::v::l,es,r=>by
  simp only[MRep,fzCs] at r ⊢;obtain ⟨e,es',h1,h2,h3,h4⟩:=r;exact ⟨e,es',h1,pg H hb hys k _ h2,pg H hb hys v _ h3,vL H hb hys l es' h4⟩
theorem Xq (H:WorldOK G h w)(hb:h.at b=some cells){ys:List C}(hys:∀blk,G.μ b=some blk→RepK (cI G w b cells.length) blk 0 ys):WorldOK (cI G w b cells.length) (mZ (dn h b) b ys h) w:=by
 have hlen:=dI hb;have hμ:∀ {j blk},(cI G w b cells.length).μ j=some blk→G.μ j=some blk∧j≠b∧G.μ b≠some blk:=fun {j blk} x=>by
  simp only[cI] at x;split at x
  . cases x
  . rename_i hne
    refine ⟨x,fun e=>hne (.inl e),fun e=>hne (.inr ⟨blk,e,x⟩)⟩
 refine ⟨fun blk off u hk=>?_,fun j c' hj=>?_,fun j blk hm=>?_,fun j j' c c' blk hj hj' hm hm'=>?_,fun j blk hm=>?_,H.tlt,fun j c' off s m xs blk v hj hc hm hv=>?_,fun j z hz=>?_,fun j l hj=>?_,fun j j' l l' blk x x' y y'=>?_⟩
 . simp only[cI] at hk
   split at hk
   . exact hk
   . exact H.known blk off u hk
 . obtain ⟨hne,c0,h2,rfl⟩:=kZ hb hj
   have hok:dn h b j=true:=by simp[dn,h2,hne]
   rcases H.box j c0 h2 with ⟨hE,hE2⟩ | ⟨blk,cs,e,q1,q2,q3,q4,q5⟩
   . refine .inl ⟨by rw[hE];rfl,?_⟩
     simp only[cI];split
     . rfl
     . exact hE2
   . have hl: (fzCs (dn h b) b ys c0).length=c0.length:=by rw[kn];simp
     exact .inr ⟨blk,cs,e,eC H hb hok q1,q2,by rw[hl];exact q3,by rw[hl];exact fzC_repLY H hb hys _ _ q4,q5⟩
 . obtain ⟨h1,h2,h3⟩:=hμ hm
   obtain ⟨⟨c,hc⟩,hl⟩:=H.dom j blk h1;refine ⟨⟨fzCs (dn h b) b ys c,?_⟩,hl⟩;unfold mZ;rw[List.getElem?_set,if_neg (Ne.symm h2),List.getElem?_map,hc];rfl
 . obtain ⟨h1,_,_⟩:=hμ hm
   obtain ⟨h1',_,_⟩:=hμ hm';obtain ⟨_,c0,g2,_⟩:=kZ hb hj;obtain ⟨_,c0',g2',_⟩:=kZ hb hj';exact H.inj j j' _ _ blk g2 g2' h1 h1'
 . obtain ⟨h1,h2,h3⟩:=hμ hm
   obtain ⟨s1,s2⟩:=H.sep j blk h1;refine ⟨fun o=>?_,s2⟩;simp only[cI];rw[if_neg (fun x=>h3 x.1)];exact s1 o
 . obtain ⟨h1,_,_⟩:=hμ hm
   obtain ⟨_,c0,g2,rfl⟩:=kZ hb hj;rw[kn,List.getElem?_map] at hc
   cases hq:c0[off]? with
   |none=>rw[hq] at hc;cases hc
   |some y=>
    rw[hq] at hc;simp only[Option.map_some,Option.some.injEq] at hc;obtain ⟨zs,rfl⟩:=qP hc;exact (H.own j c0 off s m zs blk v g2 hq h1 hv).fz
 . simp only[cI] at hz ⊢
   split at hz
   . cases hz
   . rename_i hne
     obtain ⟨blk,cs,e,fr,q1,q2,q3⟩:=H.siz j z hz;exact ⟨blk,cs,e,fr,by rw[if_neg hne];exact q1,q2,q3⟩
 . obtain ⟨n1,l0,n2,rfl⟩:=nZ hlen hj
   obtain ⟨blk,es,clk,q1,q2,q3⟩:=H.mpo j l0 n2;have hok:dn h b j=true:=by simp[dn,n2,n1]
   exact ⟨blk,es,clk,eC H hb hok q1,q2,vL H hb hys l0 _ q3⟩
 . obtain ⟨n1,l0,n2,rfl⟩:=nZ hlen x
   obtain ⟨n1',l0',n2',rfl⟩:=nZ hlen x';exact H.mpi j j' _ _ blk n2 n2' (hμ y).1 (hμ y').1
end
end Go.Sx
namespace Go.Sx
theorem LM {p:Prop}(h:p:=by (simp only[aX,aK,↓aT,aE,aM,aF,aN,aO,and_true,true_and,mz,jx,iE,ms,mw,Option.map_some,Option.map_none,c9,mr,jw,iB,kr,jF,jR,mj,ml,mm,ku,mn,iu,iw,ix,iy,iz,iA,ko,jv,↓reduceIte,Nat.reduceEqDiff,reduceCtorEq,Nat.reduceAdd,Nat.zero_add,Nat.one_ne_zero,Nat.zero_ne_one,mq,mB,iF,iG,mC,iH,iI];all_goals (repeat' first|exact CLe.refl _|exact True.intro| (with_reducible refine And.intro ?_ ?_)))):p:=h
end Go.Sx
namespace Go.Sx
open Go.RowKit
def tc (f:Nat)(pre:List C):Nat→C
 |0=> .top
 |d+1=> .kp [.fn f (pre++[tc f pre d])]
theorem xM (ρ:List Nat)(x:C):∀l:List C,mvCs ρ (l++[x]) =mvCs ρ l++[aU ρ x]
 | [] =>by simp[mvCs]
 |y::l=>by simp only[List.cons_append,mvCs,xM ρ x l]
theorem EJ (ρ:List Nat)(f:Nat)(pre:List C):∀d,aU ρ (tc f pre d) =tc f (mvCs ρ pre) d
 |0=>by simp only[tc,aU]
 |d+1=>by simp only[tc,aU,mvCs,xM,EJ ρ f pre d]
theorem xN (ok:Nat→Bool)(b:Nat)(ys:List C)(x:C):∀l:List C,fzCs ok b ys (l++[x]) =fzCs ok b ys l++[bh ok b ys x]
 | [] =>by simp[fzCs]
 |y::l=>by simp only[List.cons_append,fzCs,xN ok b ys x l]
theorem EK (ok:Nat→Bool)(b:Nat)(ys:List C)(f:Nat)(pre:List C):∀d,bh ok b ys (tc f pre d) =tc f (fzCs ok b ys pre) d
 |0=>by simp only[tc,bh]
 |d+1=>by simp only[tc,bh,fzCs,xN,EK ok b ys f pre d]
section
variable (ok:Nat→Bool) (b:Nat) (ys:List C)
theorem SY (b' o n:Nat):bh ok b ys (.sv b' o n) =if b'=b then (if o+n≤ys.length then .sl .no n ((ys.drop o).take n) else .top) else if ok b'=true then .sv b' o n else .top:=by simp only[bh]
theorem EL (b' o:Nat):bh ok b ys (.bp b' o) =if b'=b then .kp (ys.drop o) else if ok b'=true then .bp b' o else .top:=by simp only[bh]
theorem SZ (b':Nat):bh ok b ys (.mp b') =if b'=b then .top else if ok b'=true then .mp b' else .top:=by simp only[bh]
theorem S5 (b' t n:Nat):bh ok b ys (.bt b' t n) =if b'=b then .top else if ok b'=true then .bt b' t n else .top:=by simp only[bh]
theorem S6 (b o n:Nat):cW ok (.sv b o n) =if ok b=true then .sv b o n else .top:=by simp only[cW]
theorem S7 (b n:Nat)(s:Nat×Nat):cW ok (.gv b n s) =if ok b=true then .gv b n s else .top:=by simp only[cW]
theorem S9 (b o:Nat):cW ok (.bp b o) =if ok b=true then .bp b o else .top:=by simp only[cW]
theorem Ta (b:Nat):cW ok (.mp b) =if ok b=true then .mp b else .top:=by simp only[cW]
theorem Tc (b t n:Nat):cW ok (.bt b t n) =if ok b=true then .bt b t n else .top:=by simp only[cW]
theorem Td (xs:List C):cW ok (.kp xs) = .kp (scrs ok xs):=by simp only[cW]
theorem Oz (xs:List C):cW ok (.agg xs) = .agg (scrs ok xs):=by simp only[cW]
theorem Tf (f:Nat)(xs:List C):cW ok (.fn f xs) = .fn f (scrs ok xs):=by simp only[cW]
theorem OA:cW ok .top= .top:=by simp only[cW]
theorem OB (v:Value):cW ok (.val v) = .val v:=by simp only[cW]
theorem Je:scrs ok [] = []:=by simp only[scrs]
theorem EM (x:C)(xs:List C):scrs ok (x::xs) =cW ok x::scrs ok xs:=by simp only[scrs]
theorem qR {α:Type}(f:α→List C)[h:Nrf f](l:List α):scrs ok (cl f l) =cl f l:=scrs_nr ok _ (bQ f 0 l)
theorem Tg {α:Type}(f:α→List C)[h:Nrf f](a:α):scrs ok (f a) =f a:=scrs_nr ok _ (h.nr 0 a)
theorem YK {α:Type}(f:α→List C){s:Nat}[h:Cel f s](a:α):List.map C.noR (f a) =f a:=h.clean a
theorem Th {α:Type}(f:α→List C)[h:Nrf f](r:Rt)(l:List α):cW ok (sl f r l) =sl f r l:=by unfold sl;simp only[cW,qR]
theorem Ti (h:Hp):mZ ok b ys h= (h.map fun o=>o.map (fzCs ok b ys)).set b (some cM):=rfl
theorem Tj (h:Hp)(cells:List C):fzY h b cells= (scrs (dn h b) cells).map C.noR:=rfl
end
section
variable {cx:Cx} {Q:Ex→St→Prop} {e:List (Nat×C)} {h:Hp} {c:Code}
theorem aL (hcx:CxOK cx)(b:Nat)(cells:List C){e':List (Nat×C)}{h':Hp}(H:Tr cx 0 c ⟨A e',h'⟩ Q)
 (hb:h.at b=some cells:=by simp only[go_sem])
 (E:∀K:List (Nat×C)→Hp→Prop,K e' h'→K (lh (bh (dn h b) b (fzY h b cells)) e) (mZ (dn h b) b (fzY h b cells) h):=by
   intro KZ hZ;simp -implicitDefEqProofs only[go_sem,Tj,SO,Ti,xG,qg,Oi,Oj,Ok,Ol,SI,SJ,SN,SY,EL,SZ,S5,qi,I5,EC,kw,S6,S7,S9,Ta,Tc,Td,Oz,Tf,OA,OB,Th,Je,EM,qR,Tg,YK,SL,EK,SQ,Option.isSome_some,Option.isSome_none,Nat.reduceBNe,Bool.true_and,Bool.and_true,Bool.false_and,Bool.true_or,Bool.false_or,↓reduceIte,Nat.reduceEqDiff,reduceCtorEq,Nat.zero_ne_one,Nat.one_ne_zero]
   with_reducible exact hZ):Tr cx 0 c ⟨A e,h⟩ Q:=
 SG hcx b cells hb (Nat.zero_le _) (fun j hj=>absurd hj (Nat.not_lt_zero j)) (E (fun x y=>Tr cx 0 c ⟨A x,y⟩ Q) H)
end
theorem ry {G:Gh}:∀ {l:List C}{vs:List Value}{x:C},x∈l→RepL G l vs→∃v,Rep G x v
 | [],_,_,h,_=>by cases h
 |y::l,vs,x,h,r=>by
  simp only[RepL] at r;obtain ⟨v,vs',_,h1,h2⟩:=r;rcases List.mem_cons.1 h with rfl|h
  . exact ⟨v,h1⟩
  . exact ry h h2
theorem EN {P:Program}{gl:Nat→C}{f:Nat}{args:List C}{c:C}{h':Hp}(he:jB P f)(b o:Nat)(ha:C.bp b o∈args):FC P gl f args [] c h':=by
 refine ⟨he,fun G w vs W _ _ hr=>?_⟩;obtain ⟨v,hv⟩:=ry ha hr;simp only[Rep] at hv;obtain ⟨blk,h1,_⟩:=hv;obtain ⟨⟨c,hc⟩,_⟩:=W.dom b blk h1;cases hc
def OkH (h:Hp):Prop:= ∀o∈h,da o=true
structure Small (P:Program) (gl:Nat→C) (f:Nat) (α:Type) where
 k:Nat
 j:Nat
 args:α→List C
 X:α→Hp
 r:α→C
 Y:α→Hp
 k0:0< k
 hk:∀a,(X a).length=k
 hy:∀a,(Y a).length=k
 al:∀a,∀o∈X a,((aR o).isSome|| (eK o).isSome) =true
 nr:∀a,noRefs k (args a) =true
 nx:∀a,jG k (X a) =true
 at0:∀a,∃o,(args a)[j]? =some (.bp 0 o)
 inj:∀a b,args a=args b→X a=X b→r a=r b∧Y a=Y b
 fc:∀a,FC P gl f (args a) (X a) (r a) (Y a)
section
variable {P:Program} {gl:Nat→C} {f:Nat} {α:Type}
inductive SmD (α:Type) where
 |n (a:α) (pre suf:Hp) (h1:OkH pre) (h2:OkH suf)
 |e (xs:List C) (h:∃b o,C.bp b o∈xs)
end
theorem OkH.nil:OkH []:=fun o h=>by cases h
theorem OkH.cons {o:Option (List C)}{h:Hp}(h1:da o=true)(h2:OkH h):OkH (o::h):=fun p hp=>by
 rcases List.mem_cons.1 hp with rfl|hp
 . exact h1
 . exact h2 p hp
mutual
theorem YL (r:Nat→Nat):∀c:C,ae 0 c=true→bZ r c=c
 | .val _,_=>by simp only[bZ]
 | .top,_=>by simp only[bZ]
 | .agg xs,h=>by simp only[ae] at h;simp only[bZ,bks_nr r xs h]
 | .tup xs,h=>by simp only[ae] at h;simp only[bZ,bks_nr r xs h]
 | .kp xs,h=>by simp only[ae] at h;simp only[bZ,bks_nr r xs h]
 | .sl _ _ xs,h=>by simp only[ae] at h;simp only[bZ,bks_nr r xs h]
 | .fn _ xs,h=>by simp only[ae] at h;simp only[bZ,bks_nr r xs h]
 | .sv _ _ _,h=>by simp[ae] at h
 | .gv _ _ _,h=>by simp[ae] at h
 | .bp _ _,h=>by simp[ae] at h
 | .bt _ _ _,h=>by simp[ae] at h
 | .mp _,h=>by simp[ae] at h
theorem bks_nr (r:Nat→Nat):∀l:List C,noRefs 0 l=true→bkCs r l=l
 | [],_=>by simp only[bkCs]
 |x::xs,h=>by simp only[noRefs,Bool.and_eq_true] at h;simp only[bkCs,YL r x h.1,bks_nr r xs h.2]
end
theorem xO (r:Nat→Nat){α:Type}(f:α→List C)[h:Nrf f](l:List α):bkCs r (cl f l) =cl f l:=bks_nr r _ (bQ f 0 l)
section
variable {cx:Cx} {Q:Ex→St→Prop} {e:List (Nat×C)} {h:Hp} {c:Code}
theorem aW (hcx:CxOK cx)(ρ:List Nat){e':List (Nat×C)}{h':Hp}(H:Tr cx 0 c ⟨A e',h'⟩ Q)
 (hρ:uD 0 ρ:=by exact ⟨by decide,by decide,fun j hj=>absurd hj (Nat.not_lt_zero j)⟩)
 (E:∀K:List (Nat×C)→Hp→Prop,K e' h'→K (lh (aU ρ) e) (jh ρ h):=by
   intro KZ hZ;simp -implicitDefEqProofs only[xG,qg,EJ,mz,jx,iE,ms,mw,Option.map_some,Option.map_none,c9,mr,jw,iB,kr,jF,jR,mj,ml,mm,ku,mn,iu,iw,ix,iy,iz,iA,ko,jv,↓reduceIte,Nat.reduceEqDiff,reduceCtorEq,Nat.reduceAdd,Nat.zero_add,Nat.one_ne_zero,Nat.zero_ne_one,mq,mB,iF,iG,mC,iH,iI]
   with_reducible exact hZ):Tr cx 0 c ⟨A e,h⟩ Q:=
 SH hcx ρ hρ (E (fun x y=>Tr cx 0 c ⟨A x,y⟩ Q) H)
end
structure Rdy (l:Nat) (rec:LoopState→Option Code→Loop) (G:Gh) (w:World) (s:LoopState) (p:Option Code):Prop where
 obj:w.heap[l]? =some (.loop (rec s p))
 T:G.T l=none
 μ:∀b,G.μ b≠some l
theorem Rdy.frmN {n l:Nat}{rec:LoopState→Option Code→Loop}{G G':Gh}{w w':World}{s:LoopState}{p:Option Code}(h:Rdy l rec G w s p)(F:FrmN n G w G' w'):Rdy l rec G' w' s p:=by
 obtain ⟨a1,a2,a3,_⟩:=F.old l (Array.getElem?_eq_some_iff.1 h.obj).1 h.T h.μ;exact ⟨a1.trans h.obj,a2,a3⟩
theorem Rdy.same {l:Nat}{rec:LoopState→Option Code→Loop}{G G':Gh}{w:World}{s:LoopState}{p:Option Code}(h:Rdy l rec G w s p)(hT:∀g,G.T g=none→G'.T g=none)(hμ:∀g,(∀b,G.μ b≠some g)→∀b,G'.μ b≠some g):Rdy l rec G' w s p:=⟨h.obj,hT _ h.T,hμ _ h.μ⟩
structure FrmX (l n:Nat) (G₀:Gh) (w₀:World) (G:Gh) (w:World):Prop where
 os:w.os=w₀.os
 tape:w.tape=w₀.tape
 output:w.output=w₀.output
 size:w₀.heap.size≤w.heap.size
 K:∀b o u,G₀.K b o=some u→G.K b o=some u
 μ:∀b k,b< n→G₀.μ b=some k→G.μ b=some k
 σ:∀b k,b< n→G₀.σ b=some k→G.σ b=some k
 old:∀g,g≠l→g< w₀.heap.size→G₀.T g=none→(∀b,G₀.μ b≠some g)→
  w.heap[g]? =w₀.heap[g]? ∧G.T g=none∧(∀b,G.μ b≠some g)∧∀o,G.K g o=G₀.K g o
theorem FrmX.of {l n:Nat}{A B:Gh}{a b:World}(h:FrmN n A a B b):FrmX l n A a B b:=⟨h.os,h.tape,h.output,h.size,h.K,h.μ,h.σ,fun g _=>h.old g⟩
theorem FrmX.trans {l n:Nat}{A B D:Gh}{a b d:World}(h:FrmX l n A a B b)(k:FrmX l n B b D d):FrmX l n A a D d:=
 ⟨k.os.trans h.os,k.tape.trans h.tape,k.output.trans h.output,Nat.le_trans h.size k.size,fun b o u x=>k.K b o u (h.K b o u x),fun b o hb x=>k.μ b o hb (h.μ b o hb x),fun b o hb x=>k.σ b o hb (h.σ b o hb x),fun g hl hg ht hm=>by
   obtain ⟨a1,a2,a3,a4⟩:=h.old g hl hg ht hm;obtain ⟨b1,b2,b3,b4⟩:=k.old g hl (Nat.lt_of_lt_of_le hg h.size) a2 a3;exact ⟨b1.trans a1,b2,b3,fun o=>(b4 o).trans (a4 o)⟩⟩
abbrev Ys:=List C→Hp→(Option Code→Hp→Prop)→Prop
def jW (o:Option Code):LoopState:=if o.isNone then .ready else .done
structure Gle (n:Nat) (G₀ G:Gh):Prop where
 K:∀b o u,G₀.K b o=some u→G.K b o=some u
 μ:∀b k,G₀.μ b=some k→b< n∧G.μ b=some k
 σ:∀b k,G₀.σ b=some k→b< n∧G.σ b=some k
theorem Gle.le {n:Nat}{A B:Gh}(h:Gle n A B):A.Le B:=⟨h.K,fun b k x=>(h.μ b k x).2,fun b k x=>(h.σ b k x).2⟩
theorem Gle.frm {n:Nat}{A B D:Gh}{b d:World}(h:Gle n A B)(F:FrmN n B b D d):Gle n A D:=
 ⟨fun b o u x=>F.K b o u (h.K b o u x),fun b k x=>⟨(h.μ b k x).1,F.μ b k (h.μ b k x).1 (h.μ b k x).2⟩,fun b k x=>⟨(h.σ b k x).1,F.σ b k (h.σ b k x).1 (h.σ b k x).2⟩⟩
def vM (P:Program)(gl:Nat→C)(l:Nat)(rec:LoopState→Option Code→Loop)(G₀:Gh)(Y:Ys):Prop:=
 ∀az h post,Y az h post→∀ (G:Gh)(w:World)(vs:Array Value),G₀.Le G→WorldOK G h w→(∀g p,G.T g=some p→p.1=1)→(∀g,Rep G (gl g) (.pointer (some ⟨g,0,none⟩)))→Rdy l rec G w .ready none→RepL G az vs.toList→
  ∃fn tmps assign body,(Instr.yield l vs).run P w= .ok (.round l fn tmps assign body) w∧RoundIn Fence.wide 0 P l fn tmps assign body w fun e w'=>
   ∃o G' h',e= .returned (.bool o.isNone)∧post o h'∧WorldOK G' h' w'∧Frm G (w.putObj l (.loop (rec (jW o) o))) G' w'
def TrY (l:Nat)(rec:LoopState→Option Code→Loop)(G₀:Gh)(cx:Cx)(n:Nat)(c:Code)(st:St)(Q:Option Code→Ex→St→Prop):Prop:=
 ∀ (G:Gh)(w:World)(a:Act),Gle n G₀ G→Sim cx G w st a→Rdy l rec G w .ready none→∀ (R:Exit→Act→World→Prop),
   (∀o x st' G' w' a',Q o x st'→Sim cx G' w' st' a'→FrmX l n G w G' w'→(o=none→FrmN n G w G' w')→DefN w a a'→Rdy l rec G' w' (jW o) o→R (kS x) a' w')→c.wpIn Fence.wide 0 cx.P R a w
section
variable {l:Nat} {rec:LoopState→Option Code→Loop} {G₀:Gh} {cx:Cx} {n:Nat} {st:St} {Q:Option Code→Ex→St→Prop}
theorem DefN.trans {w w':World}{a b d:Act}(h:DefN w a b)(k:DefN w' b d)(hs:w.heap.size≤w'.heap.size):DefN w a d:=by
 obtain ⟨ds,e,h1⟩:=h;obtain ⟨es,e2,h2⟩:=k;refine ⟨es++ds,by rw[e2,e,List.append_assoc],fun q hq D hD=>?_⟩;rcases List.mem_append.1 hq with hq|hq
 . exact Nat.le_trans hs (h2 q hq D hD)
 . exact h1 q hq D hD
theorem DefN.refl (w:World)(a b:Act)(e:b.defers=a.defers):DefN w a b:=⟨[],by rw[e];rfl,fun _ h=>by cases h⟩
theorem gF {c:Code}{Q1:Ex→St→Prop}(H:Tr cx n c st Q1)(hQ:∀x s,Q1 x s→Q none x s):TrY l rec G₀ cx n c st Q:=fun G w a Le S D R hR=>
 H none (fun _=>rfl) G w a S R fun x s G' w' a' q S' F=>hR none x s G' w' a' (hQ x s q) S' (.of F.fr) (fun _=>F.fr) F.df (D.frmN F.fr)
theorem TrY.mono {c:Code}{Q':Option Code→Ex→St→Prop}(h:TrY l rec G₀ cx n c st Q)(hq:∀o x s,Q o x s→Q' o x s):TrY l rec G₀ cx n c st Q':=
 fun G w a Le H D R hR=>h G w a Le H D R fun o x s G' w' a' q=>hR o x s G' w' a' (hq o x s q)
theorem Jf {c:Code}{o:Option Code}(H:Tr cx n c st fun x s=>Q o x s){G0 G:Gh}{w0 w:World}{a0 a:Act}(S:Sim cx G w st a)(F0:FrmX l n G0 w0 G w)(D0:DefN w0 a0 a)(D:Rdy l rec G w (jW o) o)(ho:o≠none){R:Exit→Act→World→Prop}
 (hR:∀o x st' G' w' a',Q o x st'→Sim cx G' w' st' a'→FrmX l n G0 w0 G' w'→(o=none→FrmN n G0 w0 G' w')→DefN w0 a0 a'→Rdy l rec G' w' (jW o) o→R (kS x) a' w'):c.wpIn Fence.wide 0 cx.P R a w:=
 H none (fun _=>rfl) G w a S R fun x s G' w' a' q S' F=>hR o x s G' w' a' q S' (F0.trans (.of F.fr)) (fun e=>absurd e ho) (D0.trans F.df F0.size) (D.frmN F.fr)
def Ld (K:Option Code→St→Prop)(Q:Option Code→Ex→St→Prop):Option Code→Ex→St→Prop
 |o,.normal,s=>K o s
 |o,x,s=>Q o x s
theorem TrY.seq {x y:Code}(h:TrY l rec G₀ cx n x st (Ld (fun o s=>(o=none→TrY l rec G₀ cx n y s Q)∧(o≠none→Tr cx n y s fun x s=>Q o x s)) Q)):TrY l rec G₀ cx n (.seq x y) st Q:=fun G w ac Le H D R hR=>
 wpIn_seq (h G w ac Le H D _ fun o x s G' w' a' q S F F1 Df D'=>by
  cases x with
  |normal=>
   cases o with
   |none=>exact q.1 rfl G' w' a' (Le.frm (F1 rfl)) S D' R fun o2 x2 s2 G2 w2 a2 q2 S2 F2 F3 Df2 D2=>hR o2 x2 s2 G2 w2 a2 q2 S2 (F.trans F2) (fun e=>(F1 rfl).trans (F3 e)) (Df.trans Df2 F.size) D2
   |some j=>exact Jf (q.2 (by simp)) S F Df D' (by simp) hR
  |exit id=>exact hR o (.exit id) s G' w' a' q S F F1 Df D'
  |ret=>exact hR o .ret s G' w' a' q S F F1 Df D')
theorem TrY.cond {c:Operand}{x y:Code}{b:Bool}(hc:cx.ev st.env c= .val (.bool b))(h:TrY l rec G₀ cx n (if b then x else y) st Q):TrY l rec G₀ cx n (.cond c x y) st Q:=fun G w a Le H D R hR=>by
 have hv:=H.pre.ev c;rw[hc,aj] at hv;refine wpIn_cond (t:=b) hv ?_;cases b
 . exact h G w a Le H D R hR
 . exact h G w a Le H D R hR
def EO (id:Nat)(Q:Option Code→Ex→St→Prop):Option Code→Ex→St→Prop
 |o,.exit k,s=>if k=id then Q o .normal s else Q o (.exit k) s
 |o,x,s=>Q o x s
theorem TrY.block {id:Nat}{c:Code}(h:TrY l rec G₀ cx n c st (EO id Q)):TrY l rec G₀ cx n (.block id c) st Q:=fun G w a Le H D R hR=>
 wpIn_block (h G w a Le H D _ fun o x s G' w' a' q S F F1 Df D'=>by
  cases x with
  |normal=>exact hR o .normal s G' w' a' q S F F1 Df D'
  |ret=>exact hR o .ret s G' w' a' q S F F1 Df D'
  |exit k=>
   simp only[kS,Exit.inBlock,EO] at q ⊢;split at q
   . rename_i e;rw[if_pos e];exact hR o .normal s G' w' a' q S F F1 Df D'
   . rename_i e;rw[if_neg e];exact hR o (.exit k) s G' w' a' q S F F1 Df D')
theorem TrY.loop {c:Code}(Inv:Nat→St→Prop)(m:Nat)(h0:Inv m st)(h:∀m s,Inv m s→TrY l rec G₀ cx n c s (Ld (fun o s'=>o=none∧∃k,k< m∧Inv k s') Q)):TrY l rec G₀ cx n (.loop c) st Q:=fun G w a Le H D R hR=>by
 refine mU (fun m a' w'=> ∃s G',Inv m s∧Sim cx G' w' s a'∧FrmN n G w G' w'∧DefN w a a'∧Rdy l rec G' w' .ready none) m ⟨st,G,h0,H,.refl n G w,.refl w a a rfl,D⟩ ?_;rintro m a' w' ⟨s,G',hi,S,F,Df,D'⟩;refine h m s hi G' w' a' (Le.frm F) S D' _ fun o x s2 G2 w2 a2 q S2 F2 F3 Df2 D2=>?_
 cases x with
 |normal=>
  obtain ⟨rfl,k,hk,hik⟩:=q;exact ⟨k,hk,s2,G2,hik,S2,F.trans (F3 rfl),Df.trans Df2 F.size,D2⟩
 |exit id=>exact hR o (.exit id) s2 G2 w2 a2 q S2 (FrmX.trans (.of F) F2) (fun e=>F.trans (F3 e)) (Df.trans Df2 F.size) D2
 |ret=>exact hR o .ret s2 G2 w2 a2 q S2 (FrmX.trans (.of F) F2) (fun e=>F.trans (F3 e)) (Df.trans Df2 F.size) D2
theorem TrY.weaken {c:Code}{env':Nat→C}(h:∀t,CLe (st.env t) (env' t))(k:TrY l rec G₀ cx n c ⟨env',st.h⟩ Q):TrY l rec G₀ cx n c st Q:=fun G w a Le H D R hR=>
 k G w a Le ⟨H.defers,H.size,H.pre.ok,⟨fun t=>(h t).1 G _ (H.pre.env.1 t),fun t s m xs e=>by
   rcases (h t).2 s m xs e with e'|e'
   . exact H.pre.env.2 t s m xs (e'.trans e)
   . obtain ⟨ad,hv⟩:=e' G _ (H.pre.env.1 t)
     rw[hv];exact .inl ⟨ad,rfl⟩⟩,H.pre.glob⟩ D R hR
theorem Jg {Y:Ys}(hY:vM cx.P cx.gl l rec G₀ Y){ops:Array Oper}{k d y:Nat}{args:Array Operand}{ts:Array TypeId}{ty:TypeId}{pos:String}{aft:Array Edge}
 (ho:ops[k]? =some ⟨some d,.call { callee:= .value (.tmp y),args,argTypes:=ts },ty,pos,aft,none⟩) (hd:d< cx.N) {G:Gh} {w:World} {a:Act} (Le:Gle n G₀ G) (H:Sim cx G w st a) (D:Rdy l rec G w .ready none)
 (hy:st.env y= .val (.func (.yield l) #[] #[])) {post:Option Code→Hp→Prop} (hp:Y ((args.toList.map (cx.evn st.env)).map C.share) st.h post) {K:Act→World→Prop} {Q:Exit→Act→World→Prop}
 (hK:∀o h' G' w' a',post o h'→Sim cx G' w' ⟨put (some d) (.val (.bool o.isNone)) st.env,h'⟩ a'→FrmX l n G w G' w'→(o=none→FrmN n G w G' w')→a'.defers=a.defers→Rdy l rec G' w' (jW o) o→K a' w'):
 wpOpIn Fence.wide 0 cx.P ops Q k K a w:=by
 have hv:=H.pre.ev (.tmp y);rw[ga,hy,aj] at hv;have hargs:RepL (eM G) ((args.toList.map (cx.evn st.env)).map C.share) (args.map a.eval).toList:=by
  simp only[Array.toList_map];refine RepL.of_get (by simp) fun i x v hxx hv=>?_;simp only[List.map_map,List.getElem?_map] at hxx hv
  cases hq:args.toList[i]? with
  |none=>rw[hq] at hxx;cases hxx
  |some q=>
   rw[hq] at hxx hv;cases hxx;cases hv
   exact (qd (H.pre.evn q)).mono fY
 obtain ⟨fn,tmps,assign,body,hrun,hR⟩:=hY _ _ _ hp (eM G) w (args.map a.eval) (Le.le.trans fY) (uo H.pre.ok) (fun g p hg=>by
  simp only[eM] at hg
  cases hq:G.T g with
  |none=>rw[hq] at hg;cases hg
  |some q=>
   rw[hq] at hg;simp only[] at hg;split at hg
   . cases hg;assumption
   . cases hg) (fun g=>(H.pre.glob g).mono fY) (D.same (fun _ h=>ib h) (fun _ h=>h)) hargs
 unfold wpOpIn;rw[ho];simp only[Region.wanted,if_true];refine ⟨fun _ _=>trivial,?_⟩;have hex: (execOp a.eval ⟨some d,.call { callee:= .value (.tmp y),args,argTypes:=ts },ty,pos,aft,none⟩).run cx.P w= .ok (.round l fn tmps assign body) w:=by
  simp[execOp,resolve,hv,Deferred.ofValue,invoke,Sem.run_bind,hrun]
 rw[o8 (fun d e=>by cases e) hex];simp only[Oper.uponIn];refine ⟨(fun h=>by cases h),hR.mono ?_⟩;rintro e w' ⟨o,G',h',rfl,hpost,W',F⟩;obtain ⟨w1,hw1⟩:∃w1,w.putObj l (.loop (rec (jW o) o)) =w1:=⟨_,rfl⟩;rw[hw1] at F;have hlt:l< w.heap.size:=(Array.getElem?_eq_some_iff.1 D.obj).1;have hl1:w1.heap[l]? =some (.loop (rec (jW o) o)):=by rw[←hw1];exact World.putObj_heap_same hlt
 have hoth:∀g,g≠l→w1.heap[g]? =w.heap[g]? :=fun g hg=>by rw[←hw1];exact World.putObj_heap_other hg
 have Sh:Shut 0 G w w1:=⟨by rw[←hw1];rfl,by rw[←hw1];rfl,by rw[←hw1];rfl,by rw[←hw1];simp,fun g=>by
  by_cases hg:g=l
  . subst hg;exact .inr ⟨Nat.zero_le _,⟨_,D.obj,.inr ⟨_,rfl⟩⟩,D.T,D.μ⟩
  . exact .inl (hoth g hg)⟩
 have H1:Sim cx G w1 st a:=⟨⟨H.defers.1,fun d hd=>by
  obtain ⟨E,e1,e2,e3⟩:=H.defers.2 d hd;refine ⟨E,e1,(hoth E fun q=>?_).trans e2,e3⟩;rw[q,D.obj] at e2;cases e2⟩,H.size,Sh.ok H.pre.ok,⟨H.pre.env.1,fun t s n xs e=>Sh.row (H.pre.env.2 t s n xs e)⟩,H.pre.glob⟩
 have D1:Rdy l rec G w1 (jW o) o:=⟨hl1,D.T,D.μ⟩;have O:=rL (c:= .val (.bool o.isNone)) (v:= .bool o.isNone) H1.pre (0,d,0) W' F (aj.2 rfl) (fun s n xs e=>by cases e);refine hK o h' _ w' _ hpost (H1.put (dst:=some d) (fun q e=>by cases e;exact hd) O) ?_ (fun e=>?_) (oR _ _ _) (D1.frmN (n:=0) (.of O.frm))
 . have F2:=O.frm
   exact ⟨F2.os.trans Sh.os,F2.tape.trans Sh.tape,F2.output.trans Sh.output,by have:=F2.size;rw[Sh.size] at this;exact this,F2.le.K,fun b k _ x=>F2.le.μ b k x,fun b k _ x=>F2.le.σ b k x,fun g hg hs ht hm=>by
    obtain ⟨a1,a2⟩:=F2.old g (by rw[Sh.size];exact hs) ht hm;exact ⟨a1.trans (hoth g hg),a2⟩⟩
 . have:w1=w:=by
    subst e;rw[←hw1];have: (w.heap.setIfInBounds l (.loop (rec .ready none))) =w.heap:=by
     apply Array.ext_getElem?;intro i;by_cases hi:i=l
     . subst hi;rw[D.obj];simp[hlt]
     . exact Array.getElem?_setIfInBounds_ne (Ne.symm hi)
    show ({ w with heap:=w.heap.setIfInBounds l (.loop (rec .ready none)) }:World) =w;rw[this]
   have O2:=O.frm;rw[this] at O2 ⊢;exact .of O2
theorem qk (hcx:CxOK cx){F:Option Nat}{ops:Array Oper}{base:Nat}{Q:Exit→Act→World→Prop}{l2:List Nat}:∀ (l1:List Nat){G:Gh}{w:World}{st:St}{a:Act}{st':St},Sim cx G w st a→g8 cx ops base l1 st=some st'→
 (∀G' w' a',Sim cx G' w' st' a'→Frm G w G' w'→a'.defers=a.defers→wpOpsIn (wF F) 0 cx.P ops Q l2 a' w')→wpOpsIn (wF F) 0 cx.P ops Q (l1++l2) a w
 | [],G,w,st,a,st',H,h,hQ=>by
   simp only[g8,Option.some.injEq] at h;subst h;exact hQ G w a H (Frm.refl G w) rfl
 |i::l,G,w,st,a,st',H,h,hQ=>by
  simp only[g8] at h
  cases hs:step cx ops base i st with
  |none=>rw[hs] at h;cases h
  |some st1=>
   rw[hs] at h;rw[List.cons_append,wpOpsIn_cons];exact up hcx H hs fun G' w' a' S F e=>qk hcx l S h fun G2 w2 a2 S2 F2 e2=>hQ G2 w2 a2 S2 (F.trans F2) (e2.trans e)
theorem nw {ops:Array Oper}{base:Nat}{K:St→Prop}(h0:∀k,dF ops k=0):∀ (l:List Oper)(k:Nat)(st:St),(∀i,i< l.length→ops[k+i]? =l[i]?)→
 jM cx (ops.toList.filterMap ct) (ops.toList.map (·.dst)) l base st K→∃st',g8 cx ops base (List.range' k l.length) st=some st'∧K st'
 | [],k,st,_,h=>⟨st,rfl,h⟩
 |o::l,k,st,hl,h=>by
  have hk:ops[k]? =some o:=by have:=hl 0 (by simp);simpa using this
  have hl':∀i,i< l.length→ops[k+1+i]? =l[i]? :=fun i hi=>by
   have:=hl (i+1) (by simp;omega);rw[show k+1+i=k+(i+1) from by omega];simpa using this
  simp only[jM] at h;obtain ⟨hd,h⟩:=h;rw[oW,p6] at h;have hid: (if dr o then base+1 else base) =base:=by
   have:=rP ops k o hk;rw[h0,h0] at this;split at this
   . omega
   . rename_i q;rw[if_neg q]
  rw[hid] at h;simp only[List.length_cons,List.range'_succ,g8];have next:∀s,jM cx (ops.toList.filterMap ct) (ops.toList.map (·.dst)) l base s K→step cx ops base k st=some s→∃st',(step cx ops base k st).bind (g8 cx ops base (List.range' (k+1) l.length)) =some st'∧K st':=fun s hs hst=>by
   obtain ⟨st',h1,h2⟩:=nw h0 l (k+1) s hl' hs;exact ⟨st',by rw[hst];exact h1,h2⟩
  cases hw:dW ops o st.env with
  |none=>rw[hw] at h;exact h.elim
  |some b=>
   rw[hw] at h
   cases b with
   |false=>
    refine next _ h ?_
    unfold step;rw[hk];simp only[hd,if_true,hw]
   |true=>
    simp only[Bc] at h
    cases hp:splan cx ops o st.env with
    |none=>rw[hp] at h;exact h.elim
    |some p=>
     rw[hp] at h;simp only[] at h
     cases ha:aA cx base p st.h with
     |none=>rw[ha] at h;exact h.elim
     |some r=>
      rw[ha] at h;refine next _ h ?_
      unfold step;rw[hk];simp only[hd,if_true,hw,hp,b8,h0,Nat.add_zero,ha,Option.map_some]
theorem TrY.rg (hcx:CxOK cx){Y:Ys}(hY:vM cx.P cx.gl l rec G₀ Y){id:Nat}(L1 L2:List Oper){d y:Nat}{args:Array Operand}{ts:Array TypeId}{ty:TypeId}{pos:String}{aft:Array Edge}{e:List (Nat×C)}{h:Hp}{L:List Oper}
 (hL:L=L1++⟨some d,.call { callee:= .value (.tmp y),args,argTypes:=ts },ty,pos,aft,none⟩::L2) (hd:d< cx.N) (hm:L.countP dr=0) (apps:List Nat) (dsts:List (Option Nat)) (h1:L.filterMap ct=apps) (h2:L.map (·.dst) =dsts)
 (H:run cx apps dsts L1 h.length e h [] (fun _ s=>s.env y= .val (.func (.yield l) #[] #[])∧Y ((args.toList.map (cx.evn s.env)).map C.share) s.h fun o h'=>jM cx apps dsts L2 h.length ⟨put (some d) (.val (.bool o.isNone)) s.env,h'⟩ (Q o .normal))):
 TrY l rec G₀ cx n (.region id L.toArray false) ⟨A e,h⟩ Q:=by
 intro G w a Le S D R hR;have hc:∀k,dF L.toArray k=0:=fun k=>by
  unfold dF;have: (L.take k).countP dr≤L.countP dr:=(List.take_sublist k L).countP_le;simp only[];omega
 have hr:=jj _ _ _ _ H;have e1:L.toArray.toList.filterMap ct=apps:=by simpa using h1
 have e2:L.toArray.toList.map (·.dst) =dsts:=by simpa using h2
 rw[←e1,←e2] at hr;obtain ⟨s1,q1,q2,q3⟩:=nw hc L1 0 _ (fun i hi=>by simp[hL,List.getElem?_append_left hi]) hr;have hy:L.toArray[L1.length]? =some ⟨some d,.call { callee:= .value (.tmp y),args,argTypes:=ts },ty,pos,aft,none⟩:=by simp[hL]
 refine wpIn_region (F:=wF none) ?_;have hlen:L.toArray.size=L1.length+(1+L2.length):=by simp[hL];omega
 rw[hlen,List.range_eq_range',←List.range'_append_1];refine qk hcx _ S q1 fun G1 w1 a1 S1 F1 f1=>?_;rw[Nat.zero_add,Nat.add_comm 1,List.range'_succ,wpOpsIn_cons];refine Jg (n:=n) hY hy hd (Le.frm (.of F1)) S1 (D.frmN (n:=0) (.of F1)) q2 q3 fun o h' G2 w2 a2 p2 S2 F2 F3 f2 D2=>?_;obtain ⟨s2,r1,r2⟩:=nw hc L2 (L1.length+1) _ (fun i hi=>by simp only[List.getElem?_toArray];rw[hL,List.getElem?_append_right (by omega),show L1.length+1+i - L1.length=i+1 from by omega,List.getElem?_cons_succ]) p2;have key:=qk (F:=none) (Q:=R) (l2:=[]) hcx (List.range' (L1.length+1) L2.length) S2 r1 fun G3 w3 a3 S3 F4 f3=>by
  have F5:FrmN n G2 w2 G3 w3:= .of F4;exact hR o .normal s2 G3 w3 a3 r2 S3 ((FrmX.of (FrmN.of F1)).trans (F2.trans (.of F5))) (fun e=>(FrmN.of F1).trans ((F3 e).trans F5)) (DefN.refl _ _ _ (f3.trans (f2.trans f1))) (D2.frmN F5)
 rwa [List.append_nil] at key
end
end Go.Sx
