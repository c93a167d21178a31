/-
   And what follows.
-/
import Derived.Test.YtcpdlhgkdogdjaaDoorPau
import Derived.Test.YtcpdlhgkdogdjaaDoorPar
import Derived.Test.YtcpdlhgkdogdjaaDoorPan
import Derived.Test.YtcpdlhgkdogdjaaDoorPaj
set_option linter.unusedSimpArgs false
set_option linter.unusedVariables false
namespace Go.Sx
open Go.RowKit Go.Proofs
theorem LL {b:List UInt8}{e:Nat}(h:¬e=0):bR (b,e) = ([],(b,e)):=mM h
theorem LN {b:List UInt8}{e:Nat}(h:¬e=0):eU (b,e) = ([],(b,e)):=mM h
section
variable {s:List UInt8} {l:List Int} {n x:Nat} (hg:aS ab 1 s= (l,n,x))
include hg
theorem ZJ (h:¬x=0):dH (s,0) = ([],(s,x)):=by have:=kG (g:=aS ab 1) (ok:=f5) (z:=([]:List Int)) (b:=s) (e:=0) rfl (by rw[hg];exact h);rw[hg] at this;exact this
theorem ZK (h:x=0)(h2:¬l.length=5):dH (s,0) = ([],(s,2)):=lr (g:=aS ab 1) (ok:=f5) (z:=([]:List Int)) (b:=s) (e:=0) rfl (by rw[hg];exact h) (by rw[hg];exact decide_eq_false h2)
theorem ZL (h:x=0)(h2:l.length=5):dH (s,0) = (l,(s.drop n,0)):=by have:=kH (g:=aS ab 1) (ok:=f5) (z:=([]:List Int)) (b:=s) (e:=0) rfl (by rw[hg];exact h) (by rw[hg];exact decide_eq_true h2);rw[hg] at this;exact this
theorem ZM (h:¬x=0):eU (s,0) = ([],(s,x)):=by have:=kG (g:=aS ab 1) (ok:=f3) (z:=([]:List Int)) (b:=s) (e:=0) rfl (by rw[hg];exact h);rw[hg] at this;exact this
theorem ZN (h:x=0)(h2:¬l.length % 3=0):eU (s,0) = ([],(s,2)):=lr (g:=aS ab 1) (ok:=f3) (z:=([]:List Int)) (b:=s) (e:=0) rfl (by rw[hg];exact h) (by rw[hg];exact decide_eq_false h2)
theorem ZO (h:x=0)(h2:l.length % 3=0):eU (s,0) = (l,(s.drop n,0)):=by have:=kH (g:=aS ab 1) (ok:=f3) (z:=([]:List Int)) (b:=s) (e:=0) rfl (by rw[hg];exact h) (by rw[hg];exact decide_eq_true h2);rw[hg] at this;exact this
end
theorem ZP {s y:List UInt8}{n x:Nat}(hB:bJ s= (y,n,x))(h:¬x=0):bR (s,0) = ([],(s,x)):=by have:=kG (g:=bJ) (ok:=fT) (z:=([]:List UInt8)) (b:=s) (e:=0) rfl (by rw[hB];exact h);rw[hB] at this;exact this
theorem ZQ {s y:List UInt8}{n x:Nat}(hB:bJ s= (y,n,x))(h:x=0):bR (s,0) = (y,(s.drop n,0)):=by have:=kH (g:=bJ) (ok:=fT) (z:=([]:List UInt8)) (b:=s) (e:=0) rfl (by rw[hB];exact h) rfl;rw[hB] at this;exact this
theorem ZR {b:List UInt8}{e:Nat}(h:¬e=0):bq (b,e) = (0,(b,e)):=mM h
theorem ZS {s:List UInt8}{y:Int}{n x:Nat}(hB:ab s= (y,n,x))(h:¬x=0):bq (s,0) = (0,(s,x)):=by have:=kG (g:=ab) (ok:=fN) (z:=(0:Int)) (b:=s) (e:=0) rfl (by rw[hB];exact h);rw[hB] at this;exact this
theorem ZT {s:List UInt8}{y:Int}{n x:Nat}(hB:ab s= (y,n,x))(h:x=0)(h2:¬ ((0:Nat):Int)≤y):bq (s,0) = (0,(s,2)):=lr (g:=ab) (ok:=fN) (z:=(0:Int)) (b:=s) (e:=0) rfl (by rw[hB];exact h) (by rw[hB];exact decide_eq_false h2)
theorem ZU {s:List UInt8}{y:Int}{n x:Nat}(hB:ab s= (y,n,x))(h:x=0)(h2: ((0:Nat):Int)≤y):bq (s,0) = (y,(s.drop n,0)):=by have:=kH (g:=ab) (ok:=fN) (z:=(0:Int)) (b:=s) (e:=0) rfl (by rw[hB];exact h) (by rw[hB];exact decide_eq_true h2);rw[hB] at this;exact this
def gu (s:ba)(n e:Nat)(fits:Bool):Bool×ba:=if e≠0 then (false,(s.1,e)) else if fits=false then (false,(s.1,2)) else (true,(s.1.drop n,s.2))
theorem tY {s:ba}{n e:Nat}{f:Bool}(h:¬e=0):gu s n e f= (false,(s.1,e)):=if_pos h
theorem ww {s:ba}{n e:Nat}{f:Bool}(h:e=0)(h2:f=false):gu s n e f= (false,(s.1,2)):=by unfold gu;rw[if_neg (fun q=>q h),if_pos h2]
theorem tZ {s:ba}{n e:Nat}{f:Bool}(h:e=0)(h2:f=true):gu s n e f= (true,(s.1.drop n,s.2)):=by unfold gu;rw[if_neg (fun q=>q h),if_neg (by rw[h2];decide)]
theorem LO {s:List UInt8}{b:List UInt8}{e:Nat}{l:List Int}(h1:dH (s,0) = (l,b,e))(h:¬e=0):cS (s,0) = (((0,0,0),0,0,[],[]),(b,e)):=F6 h1 (LL h) (LN h) h
theorem ZV {s:List UInt8}{b b2:List UInt8}{e2:Nat}{l:List Int}{t:List UInt8}(h1:dH (s,0) = (l,b,0))(h2:bR (b,0) = (t,b2,e2))(h:¬e2=0):cS (s,0) = (((gt l 0,gt l 1,gt l 2),gt l 3,gt l 4,t,[]),(b2,e2)):=yT h1 h2 (LN h) rfl
theorem Cl {s:List UInt8}{b b2 b3:List UInt8}{e3:Nat}{l l2:List Int}{t:List UInt8}(h1:dH (s,0) = (l,b,0))(h2:bR (b,0) = (t,b2,0))(h3:eU (b2,0) = (l2,b3,e3)):cS (s,0) = (((gt l 0,gt l 1,gt l 2),gt l 3,gt l 4,t,fQ l2),(b3,e3)):=yT h1 h2 h3 rfl
set_option maxRecDepth 100000
set_option maxHeartbeats 8000000
theorem eF {p:Prop}(e:p:=by intro KZ hZ;simp -implicitDefEqProofs (disch:=first|omega| (simp only[go_sem,lA,lD,lT] <;>omega) |decide) only[go_sem,↓reduceIte,Nat.reduceEqDiff,reduceCtorEq,Nat.reduceLT,Nat.reduceBEq,Nat.reduceAdd,c0,c1,hy];with_reducible exact hZ):p:=e
theorem u9 {p:Prop}(e:p:=by simp -implicitDefEqProofs (disch:=first|omega| (simp only[go_sem,lA,lD,lT] <;>omega) |decide) only[go_sem,↓reduceIte,Nat.reduceEqDiff,reduceCtorEq];all_goals ((rw[hR];(try (rw[c0o]));first|exact ⟨rfl,rfl⟩ |exact ⟨True.intro,rfl⟩ |rfl))):p:=e
theorem ZH {gl:Nat→C}{M0:Nat}{pu:Nat→List C→Option C}{hp:Nat→List C→Hp→Option (C×Hp)}(hcx:CxOK (cJ gl M0 pu hp))(s:List UInt8)(er n e:Nat)(f:Bool)(hb:s.length< 1099511627776)(her:er≤10)(he:e≤10)(hn:n≤s.length):FC Tryd.prog gl 117 [.bp 0 0,.val (nI n),.val (nI e),.val (.bool f)] [some [sl bC .no s,.val (nI er)]] (.val (.bool (gu (s,er) n e f).1)) [some (rC (gu (s,er) n e f).2)]:=by
 replace hcx:=hcx.reN (M:=30);refine gc (cx:=cJ gl 30 pu hp) (rs:=[.tmp 8]) rfl Tryd.func117 rfl rfl rfl (by simp only[List.length_cons,List.length_nil];decide) ?_;simp only[bj,go_sem];have ⟨c0,c1,hy⟩:=ia;have bM:= @gY;refine Tr.w hcx [] _ [] rfl rfl rfl ?_ eF;refine aa fun K1 hK1=>?_;by_cases c0:e=0
 ·
  have c0o:=c0;replace c0:=eq_true c0;by_cases c1:f=true
  ·
   have c1o:=c1;have hR:gu (s,er) n e f=_:=tZ c0o c1o;refine Tr.w hcx [] [some 9,some 10,some 11,some 12,some 13,some 14] [] rfl rfl rfl ?_ eF;refine aq rfl ?_;refine Tr.skip ?_;refine hK1 _ ?_;refine aa fun K2 hK2=>?_;refine Tr.w hcx [] _ [] rfl rfl rfl ?_ eF;refine aq rfl ?_;refine Tr.skip ?_;refine hK2 _ ?_;refine Tr.w hcx [] _ [] rfl rfl rfl ?_ eF;refine Tr.w hcx [] _ [] rfl rfl rfl ?_ eF;exact Tr.ret u9
  have c1o:f=false:=(Bool.not_eq_true _).mp c1;replace c1:=c1o;have hR:gu (s,er) n e f=_:=ww c0o c1o;refine Tr.w hcx [] [some 9,some 10,some 11,some 12,some 13,some 14] [] rfl rfl rfl ?_ eF;refine aG rfl ?_;refine Tr.v hcx [] _ [] rfl rfl rfl ?_ eF;refine hK1 _ ?_;refine aa fun K3 hK3=>?_;refine Tr.w hcx [] _ [] rfl rfl rfl ?_ eF;refine aG rfl ?_;refine Tr.w hcx [] _ [] rfl rfl rfl ?_ eF;refine Tr.w hcx [] _ [] rfl rfl rfl ?_ eF;exact Tr.ret u9
 have c0o:=c0;replace c0:=eq_false c0;have c1:=True.intro;have hR:gu (s,er) n e f=_:=tY c0o;refine Tr.w hcx [] [some 9,some 10,some 11,some 12,some 13,some 14] [] rfl rfl rfl ?_ eF;refine aq rfl ?_;refine Tr.skip ?_;refine hK1 _ ?_;refine aa fun K4 hK4=>?_;refine Tr.w hcx [] _ [] rfl rfl rfl ?_ eF;refine aG rfl ?_;refine Tr.w hcx [] _ [] rfl rfl rfl ?_ eF;refine Tr.w hcx [] _ [] rfl rfl rfl ?_ eF;exact Tr.ret u9
theorem gq {p:Prop}(e:p:=by intro KZ hZ;simp -implicitDefEqProofs (disch:=first|omega| (simp only[go_sem,lA,lD,lT] <;>omega) |decide) only[go_sem,↓reduceIte,Nat.reduceEqDiff,reduceCtorEq,Nat.reduceLT,Nat.reduceBEq,Nat.reduceAdd,n117,m117,e125,e117,c0,c1,hy];with_reducible exact hZ):p:=e
theorem ZI {gl:Nat→C}{M0:Nat}{pu:Nat→List C→Option C}{hp:Nat→List C→Hp→Option (C×Hp)}(hcx:CxOK (cJ gl M0 pu hp))(s:List UInt8)(e:Nat)(hb:s.length< 1099511627776)(he:e≤10)(h125:∀b:List UInt8,b.length< 1099511627776→pu 125 [sl bC .no b] =some (.tup [.val (str (bJ b).1),.val (nI (bJ b).2.1),.val (nI (bJ b).2.2)]))(n117:∀xs:List C,pu 117 xs=none)(m117:∀ (b n e:Nat) (f:Bool),hp 117 [.bp b 0,.val (nI n),.val (nI e),.val (.bool f)] [] =some (.top,[none]))(q117:∀ (b:Nat) (s:List UInt8) (er n e:Nat) (f:Bool),s.length< 1099511627776∧er≤10∧e≤10∧n≤s.length→ec hp 117 [.bp b 0,.val (nI n),.val (nI e),.val (.bool f)] b [sl bC .no s,.val (nI er)] =some (rC (gu (s,er) n e f).2,.val (.bool (gu (s,er) n e f).1))):FC Tryd.prog gl 118 [.bp 0 0] [some [sl bC .no s,.val (nI e)]] (.val (str (bR (s,e)).1)) [some (rC (bR (s,e)).2)]:=by
 replace hcx:=hcx.reN (M:=26);refine gc (cx:=cJ gl 26 pu hp) (rs:=[.tmp 2]) rfl Tryd.func118 rfl rfl rfl (by simp only[List.length_cons,List.length_nil];decide) ?_;simp only[bj,go_sem];have ⟨c0,c1,hy⟩:=ia;have bM:= @gY;obtain ⟨t,n,x,hg⟩:∃t n x,bJ s= (t,n,x):=⟨_,_,_,rfl⟩;have g1:n≤s.length:=by have:=(iZ s).1;rwa [hg] at this
 have g2:x≤3:=by have:=(iZ s).2.2.1;rwa [hg] at this
 have e125:=h125 s hb;rw[hg] at e125
 dsimp only at e125
 have e117:=True.intro;refine Tr.w hcx [] _ [] rfl rfl rfl ?_ gq;refine aa fun K1 hK1=>?_;by_cases c0:e=0
 ·
  have c0o:=c0;replace c0:=eq_true c0;by_cases c1:x=0
  ·
   have c1o:=c1;replace c1:=eq_true c1;subst c0o;have hR:bR (s,0) =_:=ZQ hg c1o;refine Tr.w hcx [] _ [] rfl rfl rfl ?_ gq;refine aq rfl ?_;refine Tr.skip ?_;refine hK1 _ ?_;refine Tr.w hcx [1000017,1000018,1000019] _ [] rfl rfl rfl ?_ gq;refine aa fun K2 hK2=>?_;have e117:=(q117 0 s 0 n x true ⟨hb,by decide,by omega,g1⟩).trans (by rw[tZ c1o rfl])
   dsimp only[rC] at e117
   refine Tr.w hcx [] _ [] rfl rfl rfl ?_ gq;refine aq rfl ?_;refine Tr.skip ?_;refine hK2 _ ?_;refine Tr.w hcx [1000025] _ [] rfl rfl rfl ?_ gq;exact Tr.ret pf
  have c1o:=c1;replace c1:=eq_false c1;subst c0o;have hR:bR (s,0) =_:=ZP hg c1o;refine Tr.w hcx [] _ [] rfl rfl rfl ?_ gq;refine aq rfl ?_;refine Tr.skip ?_;refine hK1 _ ?_;refine Tr.w hcx [1000017,1000018,1000019] _ [] rfl rfl rfl ?_ gq;refine aa fun K3 hK3=>?_;have e117:=(q117 0 s 0 n x true ⟨hb,by decide,by omega,g1⟩).trans (by rw[tY c1o])
  dsimp only[rC] at e117
  refine Tr.w hcx [] _ [] rfl rfl rfl ?_ gq;refine aG rfl ?_;refine Tr.w hcx [] _ [] rfl rfl rfl ?_ gq;exact Tr.ret pf
 have c0o:=c0;replace c0:=eq_false c0;have c1:=True.intro;have hR:bR (s,e) =_:=LL c0o;refine Tr.w hcx [] _ [] rfl rfl rfl ?_ gq;refine aG rfl ?_;refine Tr.w hcx [] _ [] rfl rfl rfl ?_ gq;exact Tr.ret pf
theorem fh {p:Prop}(e:p:=by intro KZ hZ;simp -implicitDefEqProofs (disch:=first|omega| (simp only[go_sem,lA,lD,lT] <;>omega) |decide) only[go_sem,↓reduceIte,Nat.reduceEqDiff,reduceCtorEq,Nat.reduceLT,Nat.reduceBEq,Nat.reduceAdd,n117,m117,e116,e117,c0,c1,c2,hy];with_reducible exact hZ):p:=e
theorem ado {gl:Nat→C}{M0:Nat}{pu:Nat→List C→Option C}{hp:Nat→List C→Hp→Option (C×Hp)}(hcx:CxOK (cJ gl M0 pu hp))(s:List UInt8)(e:Nat)(hb:s.length< 1099511627776)(he:e≤10)(h116:∀b:List UInt8,b.length< 1099511627776→pu 116 [sl bC .no b] =some (.tup [.val (.int .i64 (ab b).1),.val (nI (ab b).2.1),.val (nI (ab b).2.2)]))(n117:∀xs:List C,pu 117 xs=none)(m117:∀ (b n e:Nat) (f:Bool),hp 117 [.bp b 0,.val (nI n),.val (nI e),.val (.bool f)] [] =some (.top,[none]))(q117:∀ (b:Nat) (s:List UInt8) (er n e:Nat) (f:Bool),s.length< 1099511627776∧er≤10∧e≤10∧n≤s.length→ec hp 117 [.bp b 0,.val (nI n),.val (nI e),.val (.bool f)] b [sl bC .no s,.val (nI er)] =some (rC (gu (s,er) n e f).2,.val (.bool (gu (s,er) n e f).1))):FC Tryd.prog gl 90 [.bp 0 0] [some [sl bC .no s,.val (nI e)]] (.val (.int .i64 (bq (s,e)).1)) [some (rC (bq (s,e)).2)]:=by
 replace hcx:=hcx.reN (M:=28);refine gc (cx:=cJ gl 28 pu hp) (rs:=[.tmp 2]) rfl Tryd.func90 rfl rfl rfl (by simp only[List.length_cons,List.length_nil];decide) ?_;simp only[bj,go_sem];have ⟨c0,c1,c2,hy⟩:=jd;have bM:= @gY;obtain ⟨t,n,x,hg⟩:∃t n x,ab s= (t,n,x):=⟨_,_,_,rfl⟩;have g1:n≤s.length:=by have:=(du s).1;rwa [hg] at this
 have g2:x≤3:=by have:=(du s).2.2.1;rwa [hg] at this
 have e116:=h116 s hb;rw[hg] at e116
 dsimp only at e116
 have e117:=True.intro;refine Tr.w hcx [] _ [] rfl rfl rfl ?_ fh;refine aa fun K1 hK1=>?_;by_cases c0:e=0
 ·
  have c0o:=c0;replace c0:=eq_true c0;by_cases c1:x=0
  ·
   have c1o:=c1;replace c1:=eq_true c1;by_cases c2: ((0:Nat):Int)≤t
   ·
    have c2o:=c2;replace c2:=eq_true c2;subst c0o;have hR:bq (s,0) =_:=ZU hg c1o c2o;refine Tr.w hcx [] _ [] rfl rfl rfl ?_ fh;refine aq rfl ?_;refine Tr.skip ?_;refine hK1 _ ?_;refine Tr.w hcx [1000017,1000018,1000019] _ [] rfl rfl rfl ?_ fh;refine aa fun K2 hK2=>?_;have e117:=(q117 0 s 0 n x true ⟨hb,by decide,by omega,g1⟩).trans (by rw[tZ c1o rfl])
    dsimp only[rC] at e117
    refine Tr.w hcx [] _ [] rfl rfl rfl ?_ fh;refine aq rfl ?_;refine Tr.skip ?_;refine hK2 _ ?_;refine Tr.k [3] ?_;refine Tr.w hcx [1000027] _ [] rfl rfl rfl ?_ fh;exact Tr.ret pf
   have c2o:=c2;replace c2:=eq_false c2;subst c0o;have hR:bq (s,0) =_:=ZT hg c1o c2o;refine Tr.w hcx [] _ [] rfl rfl rfl ?_ fh;refine aq rfl ?_;refine Tr.skip ?_;refine hK1 _ ?_;refine Tr.w hcx [1000017,1000018,1000019] _ [] rfl rfl rfl ?_ fh;refine aa fun K3 hK3=>?_;have e117:=(q117 0 s 0 n x false ⟨hb,by decide,by omega,g1⟩).trans (by rw[ww c1o rfl])
   dsimp only[rC] at e117
   refine Tr.w hcx [] _ [] rfl rfl rfl ?_ fh;refine aG rfl ?_;refine Tr.w hcx [] _ [] rfl rfl rfl ?_ fh;refine Tr.k [2] ?_;exact Tr.ret pf
  have c1o:=c1;replace c1:=eq_false c1;have c2:=True.intro;subst c0o;have hR:bq (s,0) =_:=ZS hg c1o;refine Tr.w hcx [] _ [] rfl rfl rfl ?_ fh;refine aq rfl ?_;refine Tr.skip ?_;refine hK1 _ ?_;refine Tr.w hcx [1000017,1000018,1000019] _ [] rfl rfl rfl ?_ fh;refine aa fun K4 hK4=>?_;have e117:=fun f=>(q117 0 s 0 n x f ⟨hb,by decide,by omega,g1⟩).trans (by rw[tY c1o])
  dsimp only[rC] at e117
  refine Tr.w hcx [] _ [] rfl rfl rfl ?_ fh;refine aG rfl ?_;refine Tr.w hcx [] _ [] rfl rfl rfl ?_ fh;refine Tr.k [2] ?_;exact Tr.ret pf
 have c0o:=c0;replace c0:=eq_false c0;have ⟨c1,c2⟩:=fo;have hR:bq (s,e) =_:=ZR c0o;refine Tr.w hcx [] _ [] rfl rfl rfl ?_ fh;refine aG rfl ?_;refine Tr.w hcx [] _ [] rfl rfl rfl ?_ fh;exact Tr.ret pf
theorem cK {p:Prop}(e:p:=by intro KZ hZ;simp -implicitDefEqProofs (maxSteps:=2000000) (disch:=first|omega| (simp only[go_sem,lA,lD,lT,hm3] <;>omega) |decide) only[go_sem,↓reduceIte,Nat.reduceEqDiff,reduceCtorEq,Nat.reduceLT,Nat.reduceBEq,Nat.reduceAdd,n117,m117,e126,e126b,e117,e117b,n118,m118,e118,c1,c2,c3,c4,c5,hy];with_reducible exact hZ):p:=e
theorem AH {p:Prop}(e:p:=by intro KZ hZ;simp -implicitDefEqProofs (maxSteps:=2000000) (disch:=first|omega| (simp only[go_sem,lA,lD,lT,hm3] <;>omega) |decide) only[go_sem,↓reduceIte,Nat.reduceEqDiff,reduceCtorEq,Nat.reduceLT,Nat.reduceBEq,Nat.reduceAdd,n117,m117,e126,e126b,e117,e117b,n118,m118,e118,c1,c2,c3,c4,c5,hy];with_reducible refine And.intro ?_ hZ;first|exact rfl|decide):p:=e
theorem ZW {gl:Nat→C}{M0:Nat}{pu:Nat→List C→Option C}{hp:Nat→List C→Hp→Option (C×Hp)}(hcx:CxOK (cJ gl M0 pu hp))(s:List UInt8)(hb:s.length< 1099511627776)(h126:∀b:List UInt8,b.length< 1099511627776→pu 126 [sl bC .no b] =some (.tup [sl iC .no (aS ab 1 b).1,.val (nI (aS ab 1 b).2.1),.val (nI (aS ab 1 b).2.2)]))(n117:∀xs:List C,pu 117 xs=none)(m117:∀ (b n e:Nat) (f:Bool),hp 117 [.bp b 0,.val (nI n),.val (nI e),.val (.bool f)] [] =some (.top,[none]))(q117:∀ (b:Nat) (s:List UInt8) (er n e:Nat) (f:Bool),s.length< 1099511627776∧er≤10∧e≤10∧n≤s.length→ec hp 117 [.bp b 0,.val (nI n),.val (nI e),.val (.bool f)] b [sl bC .no s,.val (nI er)] =some (rC (gu (s,er) n e f).2,.val (.bool (gu (s,er) n e f).1)))(n118:∀xs:List C,pu 118 xs=none)(m118:∀b:Nat,hp 118 [.bp b 0] [] =some (.top,[none]))(q118:∀ (b:Nat) (s:List UInt8) (e:Nat),s.length< 1099511627776∧e≤10→ec hp 118 [.bp b 0] b [sl bC .no s,.val (nI e)] =some (rC (bR (s,e)).2,.val (str (bR (s,e)).1))):FC Tryd.prog gl 119 [.bp 0 0] [some [sl bC .no s,.val (nI 0)]] (.agg (pC (cS (s,0)).1)) [some (rC (cS (s,0)).2)]:=by
 replace hcx:=hcx.reN (M:=100);refine n5 (cx:=cJ gl 100 pu hp) (rs:=[.cell 2 37]) rfl Tryd.func119 rfl rfl rfl (by simp only[List.length_cons,List.length_nil];decide) (by simp only[go_sem]) (wv _ _) ?_;simp only[bj,go_sem];have ⟨c1,c2,c3,c4,c5,hy⟩:=wM;have bM:= @gY;obtain ⟨l,n,x,hg⟩:∃l n x,aS ab 1 s= (l,n,x):=⟨_,_,_,rfl⟩;have g1:n≤s.length:=by have:=lS s;rwa [hg] at this
 have g2:x≤3:=by have:=kI s;rwa [hg] at this
 have e126:=h126 s hb;rw[hg] at e126
 dsimp only at e126
 have ⟨e117,e117b,e126b,e118,hm3⟩:=AX;refine Tr.w hcx [] _ [none] rfl rfl rfl ?_ cK;refine Tr.w hcx [] _ [none] rfl rfl rfl ?_ cK;refine Tr.w hcx [1000015,1000016,1000017] _ [] rfl rfl rfl ?_ cK;refine aa fun K1 hK1=>?_;by_cases c1:x=0
 ·
  have c1o:=c1;replace c1:=eq_true c1;by_cases c2:l.length=5
  ·
   have c2o:=c2;subst c1o;have h1:=ZL hg rfl c2o;have e117:=(q117 0 s 0 n 0 true ⟨by omega,by decide,by omega,by omega⟩).trans (by rw[tZ rfl rfl])
   dsimp only[rC] at e117
   refine Tr.w hcx [] _ [] rfl rfl rfl ?_ cK;refine aq rfl ?_;refine Tr.skip ?_;refine hK1 _ ?_;refine Tr.k [0,2,3,4] ?_;replace c2:=True.intro;refine cf hcx bM [] _ [] rfl rfl rfl rfl ?_ AH;obtain ⟨t,b2,e2,h2⟩:∃t b2 e2,bR (s.drop n,0) = (t,(b2,e2)):=⟨_,_,_,rfl⟩;have hdl: (s.drop n).length≤s.length:=by rw[List.length_drop];omega
   have k1:b2.length≤s.length:=by have:=rdT_r.le (s.drop n,0);rw[h2] at this;exact Nat.le_trans this hdl
   have k2:e2≤10:=by have:=rdT_r.er (s.drop n,0) (Nat.zero_le 10);rwa [h2] at this
   have e118:=q118 0 (s.drop n) 0 ⟨by omega,by decide⟩;rw[h2] at e118
   dsimp only[rC] at e118
   refine Tr.w hcx [] _ [] rfl rfl rfl ?_ cK;refine Tr.k [0,2,3] ?_;refine aa fun K2 hK2=>?_;by_cases c3:e2=0
   ·
    have c3o:=c3;replace c3:=eq_true c3;subst c3o;refine Tr.w hcx [] _ [] rfl rfl rfl ?_ cK;refine aq rfl ?_;refine Tr.skip ?_;refine hK2 _ ?_;obtain ⟨l2,n2,x2,hg2⟩:∃l n x,aS ab 1 b2= (l,n,x):=⟨_,_,_,rfl⟩;have j1:n2≤b2.length:=by have:=lS b2;rwa [hg2] at this
    have j2:x2≤3:=by have:=kI b2;rwa [hg2] at this
    have j3:l2.length≤b2.length:=by have:=qZ b2;rwa [hg2] at this
    have e126b:=h126 b2 (by omega);rw[hg2] at e126b
    dsimp only at e126b
    refine Tr.w hcx [1000059,1000060,1000061] _ [] rfl rfl rfl ?_ cK;refine Tr.k [0,2,3,5,6,7] ?_;refine aa fun K3 hK3=>?_;by_cases c4:x2=0
    ·
     have c4o:=c4;replace c4:=eq_true c4;by_cases c5:l2.length % 3=0
     ·
      have c5o:=c5;replace c5:=eq_true c5;subst c4o;have hR:=Cl h1 h2 (ZO hg2 rfl c5o);obtain ⟨m,hm⟩:∃m,l2.length=3*m:=⟨l2.length / 3,by omega⟩;have e117b:=(q117 0 b2 0 n2 0 true ⟨by omega,by decide,by omega,by omega⟩).trans (by rw[tZ rfl rfl])
      dsimp only[rC] at e117b
      refine Tr.w hcx [] _ [] rfl rfl rfl ?_ cK;refine aq rfl ?_;refine Tr.skip ?_;refine hK3 _ ?_;refine aa fun K4 hK4=>?_;refine Tr.w hcx [] _ [] rfl rfl rfl ?_ cK;refine Tr.k [2,3,7,8] ?_;refine Tr.blk ?_;refine Tr.bxc 2 6 (sl iD (.own 3) []) _ rfl rfl (ay rfl) rfl ?_;simp only[List.set_cons_succ,List.set_cons_zero];have hm3:=hm;refine ao (α:=Nat) (fun a=>[(2,?v2_1),(3,?v3_1),(7,?v7_1),(8,.val (nI (3*a)))]) (fun a=>[some [sl bC .no (b2.drop n2),.val (nI 0)],some [.val (nI 0),.val (nI 0),.val (nI 0),.val (nI 0),.val (nI 0),.val (str []),.val (.slice none 0 0)],some [.val (.int .i64 (gt l 0)),.val (.int .i64 (gt l 1)),.val (.int .i64 (gt l 2)),.val (.int .i64 (gt l 3)),.val (.int .i64 (gt l 4)),.val (str t),sl iD (.own 3) ((fQ l2).take a)]]) (fun a=>a≤m) (fun a=>m - a) (0) (Nat.zero_le _) ?le_1 ?hh_1 ?bd_1
      case hh_1=>exact rfl
      case le_1=>exact LT
      rintro i hi;refine aa fun K5 hK5=>?_;refine Tr.w hcx [] _ [] rfl rfl rfl ?_ cK;refine af rfl (fun hc76=>?_) (fun hc76=>?_)
      ·
       refine Tr.skip ?_;refine hK5 _ ?_;refine Tr.k [2,3,7,8] ?_;refine aa fun K6 hK6=>?_;refine Tr.blk ?_;refine fS hcx bM [80] _ [] rfl rfl rfl rfl ?_ AH;refine hK6 _ ?_;refine Tr.k [2,3,7,8] ?_;refine Tr.v hcx [1000078] _ [] rfl rfl rfl ?_ cK;exact ⟨i+1,⟨(by omega),O1⟩,LT,by simp only[←yS hm (show i< m by omega)] <;>rfl⟩
      refine Tr.exit ?_;refine hK4 _ ?_;obtain rfl:i=m:=by omega
      rw[List.take_of_length_le (Nat.le_of_eq (mP l2 _ hm))];refine Tr.bxc 2 6 (sl iD .no (fQ l2)) _ rfl rfl (CLe.noR (sl iD (.own 3) _)) rfl ?_;simp only[List.set_cons_succ,List.set_cons_zero];refine Tr.w hcx [] _ [] rfl rfl rfl ?_ cK;first| (refine Tr.bxc 1 6 (sl iD .no []) _ rfl rfl (CLe.nil _) rfl ?_;simp only[List.set_cons_succ,List.set_cons_zero]) |skip
      exact Tr.ret m5
     have c5o:=c5;replace c5:=eq_false c5;subst c4o;have hR:=Cl h1 h2 (ZN hg2 rfl c5o);have e117b:=(q117 0 b2 0 n2 0 false ⟨by omega,by decide,by omega,by omega⟩).trans (by rw[ww rfl rfl])
     dsimp only[rC] at e117b
     refine Tr.w hcx [] _ [] rfl rfl rfl ?_ cK;refine aG rfl ?_;refine Tr.w hcx [] _ [] rfl rfl rfl ?_ cK;first| (refine Tr.bxc 1 6 (sl iD .no []) _ rfl rfl (CLe.nil _) rfl ?_;simp only[List.set_cons_succ,List.set_cons_zero]) |skip
     exact Tr.ret m5
    have c4o:=c4;replace c4:=eq_false c4;have c5:=True.intro;have hR:=Cl h1 h2 (ZM hg2 c4o);have e117b:=fun f=>(q117 0 b2 0 n2 x2 f ⟨by omega,by decide,by omega,by omega⟩).trans (by rw[tY c4o])
    dsimp only[rC] at e117b
    refine Tr.w hcx [] _ [] rfl rfl rfl ?_ cK;refine aG rfl ?_;refine Tr.w hcx [] _ [] rfl rfl rfl ?_ cK;first| (refine Tr.bxc 1 6 (sl iD .no []) _ rfl rfl (CLe.nil _) rfl ?_;simp only[List.set_cons_succ,List.set_cons_zero]) |skip
    exact Tr.ret m5
   have c3o:=c3;replace c3:=eq_false c3;have hR:=ZV h1 h2 c3o;refine Tr.w hcx [] _ [] rfl rfl rfl ?_ cK;refine aG rfl ?_;refine Tr.w hcx [] _ [] rfl rfl rfl ?_ cK;first| (refine Tr.bxc 1 6 (sl iD .no []) _ rfl rfl (CLe.nil _) rfl ?_;simp only[List.set_cons_succ,List.set_cons_zero]) |skip
   exact Tr.ret m5
  have c2o:=c2;replace c2:=eq_false c2;subst c1o;have hR:=LO (ZK hg rfl c2o) (by decide);have e117:=(q117 0 s 0 n 0 false ⟨by omega,by decide,by omega,by omega⟩).trans (by rw[ww rfl rfl])
  dsimp only[rC] at e117
  refine Tr.w hcx [] _ [] rfl rfl rfl ?_ cK;refine aG rfl ?_;refine Tr.w hcx [] _ [] rfl rfl rfl ?_ cK;first| (refine Tr.bxc 1 6 (sl iD .no []) _ rfl rfl (CLe.nil _) rfl ?_;simp only[List.set_cons_succ,List.set_cons_zero]) |skip
  exact Tr.ret m5
 have c1o:=c1;replace c1:=eq_false c1;have c2:=True.intro;have hR:=LO (ZJ hg c1o) c1o;have e117:=fun f=>(q117 0 s 0 n x f ⟨by omega,by decide,by omega,by omega⟩).trans (by rw[tY c1o])
 dsimp only[rC] at e117
 refine Tr.w hcx [] _ [] rfl rfl rfl ?_ cK;refine aG rfl ?_;refine Tr.w hcx [] _ [] rfl rfl rfl ?_ cK;first| (refine Tr.bxc 1 6 (sl iD .no []) _ rfl rfl (CLe.nil _) rfl ?_;simp only[List.set_cons_succ,List.set_cons_zero]) |skip
 exact Tr.ret m5
theorem jn {p:Prop}(e:p:=by intro KZ hZ;simp -implicitDefEqProofs (maxSteps:=2000000) (disch:=first|omega| (simp only[go_sem,lA,lD,lT,hl3] <;>omega) |decide) only[go_sem,↓reduceIte,Nat.reduceEqDiff,reduceCtorEq,Nat.reduceLT,Nat.reduceBEq,Nat.reduceAdd,n118,m118,e118,n90,m90,e90,n119,m119,e119,c5,c6,hy];with_reducible exact hZ):p:=e
theorem WJ {p:Prop}(e:p:=by intro KZ hZ;simp -implicitDefEqProofs (maxSteps:=2000000) (disch:=first|omega| (simp only[go_sem,lA,lD,lT,hl3] <;>omega) |decide) only[go_sem,↓reduceIte,Nat.reduceEqDiff,reduceCtorEq,Nat.reduceLT,Nat.reduceBEq,Nat.reduceAdd,n118,m118,e118,n90,m90,e90,n119,m119,e119,c5,c6,hy];with_reducible refine And.intro ?_ hZ;first|exact rfl|decide):p:=e
theorem F8 {p:Prop}(e:p:=by simp -implicitDefEqProofs (disch:=first|omega| (simp only[go_sem,lA,lD,lT,hl3] <;>omega) |decide) only[go_sem,↓reduceIte,Nat.reduceEqDiff,reduceCtorEq];all_goals ((rw[hA1];first|exact ⟨rfl,rfl⟩ |exact ⟨True.intro,rfl⟩ |rfl))):p:=e
theorem adp {gl:Nat→C}{M0:Nat}{pu:Nat→List C→Option C}{hp:Nat→List C→Hp→Option (C×Hp)}(hcx:CxOK (cJ gl M0 pu hp))(s:List UInt8)(e:Nat)(hb:s.length≤300000000000)(he:e≤10)(n118:∀xs:List C,pu 118 xs=none)(m118:∀b:Nat,hp 118 [.bp b 0] [] =some (.top,[none]))(q118:∀ (b:Nat) (s:List UInt8) (e:Nat),s.length< 1099511627776∧e≤10→ec hp 118 [.bp b 0] b [sl bC .no s,.val (nI e)] =some (rC (bR (s,e)).2,.val (str (bR (s,e)).1)))(n90:∀xs:List C,pu 90 xs=none)(m90:∀b:Nat,hp 90 [.bp b 0] [] =some (.top,[none]))(q90:∀ (b:Nat) (s:List UInt8) (e:Nat),s.length< 1099511627776∧e≤10→ec hp 90 [.bp b 0] b [sl bC .no s,.val (nI e)] =some (rC (bq (s,e)).2,.val (.int .i64 (bq (s,e)).1)))(n119:∀xs:List C,pu 119 xs=none)(m119:∀b:Nat,hp 119 [.bp b 0] [] =some (.top,[none]))(q119:∀ (b:Nat) (s:List UInt8),s.length< 1099511627776→ec hp 119 [.bp b 0] b [sl bC .no s,.val (nI 0)] =some (rC (cS (s,0)).2,.agg (pC (cS (s,0)).1))):FC Tryd.prog gl 91 [.bp 0 0] [some [sl bC .no s,.val (nI e)]] (.agg (aC (dU (s,e)).1)) [some (rC (dU (s,e)).2)]:=by
 replace hcx:=hcx.reN (M:=31);refine n5 (cx:=cJ gl 31 pu hp) (rs:=[.cell 2 48]) rfl Tryd.func91 rfl rfl rfl (by simp only[List.length_cons,List.length_nil];decide) (by simp only[go_sem]) (wv _ _) ?_;simp only[bj,go_sem];have ⟨c5,c6,hy⟩:=ia;have bM:= @gY;have ⟨hl3,e119⟩:=fo;obtain ⟨t,b3,f3,h3⟩:∃t b3 f3,bR (s,e) = (t,(b3,f3)):=⟨_,_,_,rfl⟩;have g3:b3.length≤s.length:=by have:=rdT_r.le (s,e);rwa [h3] at this
 have g3e:f3≤10:=by have:=rdT_r.er (s,e) he;rwa [h3] at this
 have e118:=q118 0 s e ⟨by omega,he⟩;rw[h3] at e118
 dsimp only[rC] at e118
 obtain ⟨k,b4,f4,h4⟩:∃k b4 f4,((bq (b3,f3)).1.toNat,(bq (b3,f3)).2) = (k,(b4,f4)):=⟨_,_,_,rfl⟩;have hk: (bq (b3,f3)).1.toNat=k:=congrArg Prod.fst h4;have hs4: (bq (b3,f3)).2= (b4,f4):=congrArg Prod.snd h4;have hk63:k< 9223372036854775808:=by rw[←hk];exact (jr _).2
 have g4:b4.length≤b3.length:=by have:=rdI_r.le (b3,f3);rwa [hs4] at this
 have g4e:f4≤10:=by have:=rdI_r.er (b3,f3) g3e;rwa [hs4] at this
 have e90:ec hp 90 [.bp 0 0] 0 [sl bC .no b3,.val (nI f3)] =some ([sl bC .no b4,.val (nI f4)],.val (nI k)):=by
  have q:=q90 0 b3 f3 ⟨by omega,g3e⟩;rw[(jr _).1,hk,hs4] at q;exact q
 obtain ⟨R3,hR3⟩:∃R3,rep cS k (b4,f4) [] =R3:=⟨_,rfl⟩;have hA:dU (s,e) = ((t,R3.1),R3.2):=by unfold dU;rw[h3];dsimp only;rw[hk,hs4,hR3]
 refine Tr.w hcx [] _ [none] rfl rfl rfl ?_ jn;refine Tr.w hcx [] _ [none] rfl rfl rfl ?_ jn;refine Tr.w hcx [1000010] _ [] rfl rfl rfl ?_ jn;refine aa fun K1 hK1=>?_;refine Tr.w hcx [] _ [] rfl rfl rfl ?_ jn;refine Tr.k [0,2,3,4,5] ?_;refine Tr.blk ?_;refine Tr.bxc 2 1 (sl pC (.own 7) []) _ rfl rfl (ay rfl) rfl ?_;simp only[List.set_cons_succ,List.set_cons_zero];refine ao (α:=(ba×List aI)) (fun a=>[(0,?v0_1),(2,?v2_1),(3,?v3_1),(4,?v4_1),(5,.val (nI a.2.length))]) (fun a=>[some [sl bC .no a.1.1,.val (nI a.1.2)],some [.val (str []),.val (.slice none 0 0)],some [.val (str t),sl pC (.own 7) a.2]]) (fun a=>RdI cS k (s.length+1) R3 a.1 a.2) (fun a=>k - a.2.length) (((b4,f4),[])) (by rw[←hR3];exact jJ (f:=cS) (n:=k) (B:=s.length+1) (s:=(b4,f4)) (by show b4.length≤_;omega) g4e) ?le_1 ?hh_1 ?bd_1
 case hh_1=>exact rfl
 case le_1=>exact LT
 rintro ⟨⟨s3,e3⟩,l3⟩ hRK;have hl3:=hRK.b
 dsimp only at hl3
 refine aa fun K2 hK2=>?_;by_cases c5:l3.length< k
 ·
  have c5o:=c5;replace c5:=eq_true c5;by_cases c6:e3=0
  ·
   have c6o:=c6;replace c6:=eq_true c6;refine Tr.w hcx [] [some 11,some 12,some 13,some 14,some 15,some 16,some 17,some 18,some 19,some 20] [] rfl rfl rfl ?_ jn;refine aG rfl ?_;refine Tr.skip ?_;refine hK2 _ ?_;refine aa fun K3 hK3=>?_;refine Tr.blk ?_;obtain ⟨p,s5,e5,hpp⟩:∃p s5 e5,cS (s3,0) = (p,(s5,e5)):=⟨_,_,_,rfl⟩;have e119:ec hp 119 [.bp 0 0] 0 [sl bC .no s3,.val (nI e3)] =some ([sl bC .no s5,.val (nI e5)],.agg (pC p)):=by
    have q:=q119 0 s3 (by omega);rw[hpp] at q;rw[c6o];exact q
   refine fS hcx bM [24] _ [] rfl rfl rfl rfl ?_ WJ;refine hK3 _ ?_;refine Tr.v hcx [1000022] _ [] rfl rfl rfl ?_ jn;refine ⟨((s5,e5),l3++[p]),⟨RdI.step mN hRK c6o c5o (c6o▸hpp),(by have:l3.length< k:=c5o;simp only[List.length_append,List.length_singleton] <;>omega)⟩,?_,rfl⟩
   (simp only[aX,aK,↓aT,↓reduceIte,Nat.reduceEqDiff,aE,aM,aF,aN,aO,and_true,true_and];all_goals (repeat' first|exact CLe.refl _|exact True.intro| (refine ay ?_;first|rfl| (simp only[List.take_zero];done)) |exact aV (by omega) |exact aB (by omega) |exact aJ (by omega) |exact aP (by omega) |with_reducible apply And.intro))
   all_goals (simp only[List.length_append,List.length_singleton];exact CLe.refl _)
  have c6o:=c6;replace c6:=eq_false c6;refine Tr.w hcx [] [some 11,some 12,some 13,some 14,some 15,some 16,some 17,some 18,some 19,some 20] [] rfl rfl rfl ?_ jn;refine aq rfl ?_;refine Tr.exit ?_;refine hK1 _ ?_;have hK:=hRK.stop (fun q=>c6o q.2);have hA1:dU (s,e) = ((t,l3),(s3,e3)):=by rw[hA,hK]
  refine Tr.bxc 2 1 (sl pC .no l3) _ rfl rfl (CLe.noR (sl pC (.own 7) _)) rfl ?_;simp only[List.set_cons_succ,List.set_cons_zero];refine Tr.w hcx [] _ [] rfl rfl rfl ?_ jn;exact Tr.ret F8
 have c5o:=c5;replace c5:=eq_false c5;have c6:=True.intro;refine Tr.w hcx [] [some 11,some 12,some 13,some 14,some 15,some 16,some 17,some 18,some 19,some 20] [] rfl rfl rfl ?_ jn;refine aq rfl ?_;refine Tr.exit ?_;refine hK1 _ ?_;have hK:=hRK.stop (fun q=>c5o q.1);have hA1:dU (s,e) = ((t,l3),(s3,e3)):=by rw[hA,hK]
 refine Tr.bxc 2 1 (sl pC .no l3) _ rfl rfl (CLe.noR (sl pC (.own 7) _)) rfl ?_;simp only[List.set_cons_succ,List.set_cons_zero];refine Tr.w hcx [] _ [] rfl rfl rfl ?_ jn;exact Tr.ret F8
theorem Kk (u:TypeDesc)(y:Nat)(x:dG):fD (some ⟨u,2,y,[str [],.slice none 0 0]⟩) 1 [(0,.agg (aC x))] =some (vp (sl aC .full [x])):=rfl
attribute [go_sem] Kk
theorem dy {p:Prop}(e:p:=by intro KZ hZ;simp -implicitDefEqProofs (maxSteps:=2000000) (disch:=first|omega| (simp only[go_sem,lA,lD,lT,hl1,hl2] <;>omega) |decide) only[go_sem,↓reduceIte,Nat.reduceEqDiff,reduceCtorEq,Nat.reduceLT,Nat.reduceBEq,Nat.reduceAdd,n90,m90,n91,m91,e79a,e79b,e91,c1,c2,c3,c4,c7,hy];with_reducible exact hZ):p:=e
theorem ua {p:Prop}(e:p:=by intro KZ hZ;simp -implicitDefEqProofs (maxSteps:=2000000) (disch:=first|omega| (simp only[go_sem,lA,lD,lT,hl1,hl2] <;>omega) |decide) only[go_sem,↓reduceIte,Nat.reduceEqDiff,reduceCtorEq,Nat.reduceLT,Nat.reduceBEq,Nat.reduceAdd,n90,m90,n91,m91,e79a,e79b,e91,c1,c2,c3,c4,c7,hy];with_reducible refine And.intro ?_ hZ;first|exact rfl|decide):p:=e
theorem yV {p:Prop}(e:p:=by simp -implicitDefEqProofs (disch:=first|omega| (simp only[go_sem,lA,lD,lT,hl1,hl2] <;>omega) |decide) only[go_sem,↓reduceIte,Nat.reduceEqDiff,reduceCtorEq];all_goals ((first| (rw[hR];done) | (rw[hR];rfl)))):p:=e
theorem adq {gl:Nat→C}{M0:Nat}{pu:Nat→List C→Option C}{hp:Nat→List C→Hp→Option (C×Hp)}(hcx:CxOK (cJ gl M0 pu hp))(b:List UInt8)(hb:b.length≤200000000000)(n90:∀xs:List C,pu 90 xs=none)(m90:∀b:Nat,hp 90 [.bp b 0] [] =some (.top,[none]))(q90:∀ (b:Nat) (s:List UInt8) (e:Nat),s.length< 1099511627776∧e≤10→ec hp 90 [.bp b 0] b [sl bC .no s,.val (nI e)] =some (rC (bq (s,e)).2,.val (.int .i64 (bq (s,e)).1)))(n91:∀xs:List C,pu 91 xs=none)(m91:∀b:Nat,hp 91 [.bp b 0] [] =some (.top,[none]))(q91:∀ (b:Nat) (s:List UInt8) (e:Nat),s.length≤300000000000∧e≤10→ec hp 91 [.bp b 0] b [sl bC .no s,.val (nI e)] =some (rC (dU (s,e)).2,.agg (aC (dU (s,e)).1))):FC Tryd.prog gl 50 [sl bC .no b] [] (.tup [.agg [sl vC .no (dw b).1],.val (nI (dw b).2.1),.val (nI (dw b).2.2)]) []:=by
 replace hcx:=hcx.reN (M:=75);refine aH (cx:=cJ gl 75 pu hp) (rs:=[.cell 2 29,.tmp 3,.tmp 4]) rfl Tryd.func50 rfl rfl rfl (by simp only[List.length_cons,List.length_nil];decide) (by simp only[go_sem]) ?_;simp only[bj,go_sem];have ⟨c1,c2,c3,c4,c7,hy⟩:=wM;have bM:= @gY;have ⟨hl1,hl2,e79b,e91⟩:=jd;obtain ⟨n,b0,e0,h0⟩:∃n b0 e0,((bq (b,0)).1.toNat,(bq (b,0)).2) = (n,(b0,e0)):=⟨_,_,_,rfl⟩;have hn: (bq (b,0)).1.toNat=n:=congrArg Prod.fst h0;have hs0: (bq (b,0)).2= (b0,e0):=congrArg Prod.snd h0;have hn63:n< 9223372036854775808:=by rw[←hn];exact (jr _).2
 have g0:b0.length≤b.length:=by have:=rdI_r.le (b,0);rwa [hs0] at this
 have g0e:e0≤10:=by have:=rdI_r.er (b,0) (Nat.zero_le 10);rwa [hs0] at this
 have e79a:ec hp 90 [.bp 1 0] 1 [sl bC .no b,.val (nI 0)] =some ([sl bC .no b0,.val (nI e0)],.val (nI n)):=by
  have q:=q90 1 b 0 ⟨by omega,by decide⟩;rw[(jr _).1,hn,hs0] at q;exact q
 obtain ⟨R1,hR1⟩:∃R1,rep gp n (b0,e0) [] =R1:=⟨_,rfl⟩;have hW:pH (b,0) =R1:=by unfold pH;rw[hn,hs0];exact hR1
 refine Tr.w hcx [] _ [none] rfl rfl rfl ?_ dy;refine Tr.w hcx [1000014] _ [none] rfl rfl rfl ?_ dy;refine Tr.w hcx [] _ [none] rfl rfl rfl ?_ dy;refine Tr.w hcx [1000016] _ [] rfl rfl rfl ?_ dy;refine aa fun K1 hK1=>?_;refine Tr.w hcx [] _ [] rfl rfl rfl ?_ dy;refine Tr.k [0,2,5,6,7,8] ?_;refine Tr.blk ?_;refine Tr.k [0,2,5,6,7,8] ?_;refine aW hcx [0,1,2] ?_;refine Tr.bxc 2 0 (sl vC (.own 1) []) _ rfl rfl (ay rfl) rfl ?_;simp only[List.set_cons_succ,List.set_cons_zero];refine ao (α:=(ba×List bE)) (fun a=>[(0,?v0_1),(2,?v2_1),(5,?v5_1),(6,?v6_1),(7,?v7_1),(8,.val (nI a.2.length))]) (fun a=>[some [.val (.slice none 0 0)],some [sl bC .no a.1.1,.val (nI a.1.2)],some [sl vC (.own 1) a.2]]) (fun a=>RdI gp n b.length R1 a.1 a.2) (fun a=>n - a.2.length) (((b0,e0),[])) (by rw[←hR1];exact jJ (f:=gp) (n:=n) (B:=b.length) (s:=(b0,e0)) g0 g0e) ?le_1 ?hh_1 ?bd_1
 case hh_1=>exact rfl
 case le_1=>exact LT
 rintro ⟨⟨s1,e1⟩,l1⟩ hRI;have hl1:=hRI.b
 dsimp only at hl1
 refine aa fun K2 hK2=>?_;by_cases c1:l1.length< n
 ·
  have c1o:=c1;replace c1:=eq_true c1;by_cases c2:e1=0
  ·
   have c2o:=c2;replace c2:=eq_true c2;refine Tr.w hcx [] [some 17,some 18,some 19,some 20,some 21,some 22,some 23,some 24,some 25,some 26] [] rfl rfl rfl ?_ dy;refine aG rfl ?_;refine Tr.skip ?_;refine hK2 _ ?_;refine aa fun K3 hK3=>?_;refine Tr.blk ?_;refine Tr.w hcx [] _ [none] rfl rfl rfl ?_ dy;obtain ⟨m,b2,f2,h2⟩:∃m b2 f2,((bq (s1,e1)).1.toNat,(bq (s1,e1)).2) = (m,(b2,f2)):=⟨_,_,_,rfl⟩;have hm: (bq (s1,e1)).1.toNat=m:=congrArg Prod.fst h2;have hs2: (bq (s1,e1)).2= (b2,f2):=congrArg Prod.snd h2;have hm63:m< 9223372036854775808:=by rw[←hm];exact (jr _).2
   have g2:b2.length≤s1.length:=by have:=rdI_r.le (s1,e1);rwa [hs2] at this
   have g2e:f2≤10:=by have:=rdI_r.er (s1,e1) hl1.2.2;rwa [hs2] at this
   have e79b:ec hp 90 [.bp 1 0] 1 [sl bC .no s1,.val (nI e1)] =some ([sl bC .no b2,.val (nI f2)],.val (nI m)):=by
    have q:=q90 1 s1 e1 ⟨by omega,hl1.2.2⟩;rw[(jr _).1,hm,hs2] at q;exact q
   obtain ⟨R2,hR2⟩:∃R2,rep dU m (b2,f2) [] =R2:=⟨_,rfl⟩;have hV:gp (s1,e1) =R2:=by unfold gp;rw[hm,hs2];exact hR2
   refine Tr.w hcx [1000030] _ [] rfl rfl rfl ?_ dy;refine aa fun K4 hK4=>?_;refine Tr.w hcx [] _ [] rfl rfl rfl ?_ dy;refine Tr.k [0,2,5,6,7,8,9,10,11] ?_;refine Tr.blk ?_;refine Tr.bxc 3 0 (sl aC (.own 2) []) _ rfl rfl (ay rfl) rfl ?_;simp only[List.set_cons_succ,List.set_cons_zero];refine ao (α:=(ba×List dG)) (fun a=>[(0,?v0_2),(2,?v2_2),(5,?v5_2),(6,?v6_2),(7,?v7_2),(8,?v8_2),(9,?v9_2),(10,?v10_2),(11,.val (nI a.2.length))]) (fun a=>[some [.val (.slice none 0 0)],some [sl bC .no a.1.1,.val (nI a.1.2)],some [sl vC (.own 1) l1],some [sl aC (.own 2) a.2]]) (fun a=>RdI dU m (b.length+1) R2 a.1 a.2) (fun a=>m - a.2.length) (((b2,f2),[])) (by rw[←hR2];exact jJ (f:=dU) (n:=m) (B:=b.length+1) (s:=(b2,f2)) (by show b2.length≤_;omega) g2e) ?le_2 ?hh_2 ?bd_2
   case hh_2=>exact rfl
   case le_2=>exact LT
   rintro ⟨⟨s2,e2⟩,l2⟩ hRJ;have hl2:=hRJ.b
   dsimp only at hl2
   refine aa fun K5 hK5=>?_;by_cases c3:l2.length< m
   ·
    have c3o:=c3;replace c3:=eq_true c3;by_cases c4:e2=0
    ·
     have c4o:=c4;replace c4:=eq_true c4;refine Tr.w hcx [] [some 31,some 32,some 33,some 34,some 35,some 36,some 37,some 38,some 39,some 40] [] rfl rfl rfl ?_ dy;refine aG rfl ?_;refine Tr.skip ?_;refine hK5 _ ?_;refine aa fun K6 hK6=>?_;refine Tr.blk ?_;obtain ⟨A,s3,e3,hA1⟩:∃A s3 e3,dU (s2,e2) = (A,(s3,e3)):=⟨_,_,_,rfl⟩;have e91:ec hp 91 [.bp 1 0] 1 [sl bC .no s2,.val (nI e2)] =some ([sl bC .no s3,.val (nI e3)],.agg (aC A)):=by
      have q:=q91 1 s2 e2 ⟨by omega,hl2.2.2⟩;rw[hA1] at q;exact q
     refine fS hcx bM [44] _ [] rfl rfl rfl rfl ?_ ua;refine hK6 _ ?_;refine Tr.k [0,2,5,6,7,8,9,10,11] ?_;refine Tr.v hcx [1000042] _ [] rfl rfl rfl ?_ dy;refine ⟨((s3,e3),l2++[A]),⟨RdI.step oy hRJ c4o c3o hA1,(by have:l2.length< m:=c3o;simp only[List.length_append,List.length_singleton] <;>omega)⟩,?_,rfl⟩
     (simp only[aX,aK,↓aT,↓reduceIte,Nat.reduceEqDiff,aE,aM,aF,aN,aO,and_true,true_and];all_goals (repeat' first|exact CLe.refl _|exact True.intro| (refine ay ?_;first|rfl| (simp only[List.take_zero];done)) |exact aV (by omega) |exact aB (by omega) |exact aJ (by omega) |exact aP (by omega) |with_reducible apply And.intro))
     all_goals (simp only[List.length_append,List.length_singleton];exact CLe.refl _)
    have c4o:=c4;replace c4:=eq_false c4;refine Tr.w hcx [] [some 31,some 32,some 33,some 34,some 35,some 36,some 37,some 38,some 39,some 40] [] rfl rfl rfl ?_ dy;refine aq rfl ?_;refine Tr.exit ?_;refine hK4 _ ?_;have hJ:=hRJ.stop (fun q=>c4o q.2);have hV1:gp (s1,e1) = (l2,(s2,e2)):=by rw[hV,hJ]
    refine Tr.v hcx [51] _ [] rfl rfl rfl ?_ dy;refine hK3 _ ?_;refine Tr.k [0,2,5,6,7,8] ?_;refine Tr.k [0,2,5,6,7,8] ?_;refine aW hcx [0,1,2] ?_;refine Tr.v hcx [1000028] _ [] rfl rfl rfl ?_ dy;refine ⟨((s2,e2),l1++[l2]),⟨RdI.step mO hRI c2o c1o hV1,(by have:l1.length< n:=c1o;simp only[List.length_append,List.length_singleton] <;>omega)⟩,?_,rfl⟩
    (simp only[aX,aK,↓aT,↓reduceIte,Nat.reduceEqDiff,aE,aM,aF,aN,aO,and_true,true_and];all_goals (repeat' first|exact CLe.refl _|exact True.intro| (refine ay ?_;first|rfl| (simp only[List.take_zero];done)) |exact aV (by omega) |exact aB (by omega) |exact aJ (by omega) |exact aP (by omega) |with_reducible apply And.intro))
    all_goals (simp only[List.length_append,List.length_singleton];exact CLe.refl _)
   have c3o:=c3;replace c3:=eq_false c3;have c4:=True.intro;refine Tr.w hcx [] [some 31,some 32,some 33,some 34,some 35,some 36,some 37,some 38,some 39,some 40] [] rfl rfl rfl ?_ dy;refine aq rfl ?_;refine Tr.exit ?_;refine hK4 _ ?_;have hJ:=hRJ.stop (fun q=>c3o q.1);have hV1:gp (s1,e1) = (l2,(s2,e2)):=by rw[hV,hJ]
   refine Tr.v hcx [51] _ [] rfl rfl rfl ?_ dy;refine hK3 _ ?_;refine Tr.k [0,2,5,6,7,8] ?_;refine Tr.k [0,2,5,6,7,8] ?_;refine aW hcx [0,1,2] ?_;refine Tr.v hcx [1000028] _ [] rfl rfl rfl ?_ dy;refine ⟨((s2,e2),l1++[l2]),⟨RdI.step mO hRI c2o c1o hV1,(by have:l1.length< n:=c1o;simp only[List.length_append,List.length_singleton] <;>omega)⟩,?_,rfl⟩
   (simp only[aX,aK,↓aT,↓reduceIte,Nat.reduceEqDiff,aE,aM,aF,aN,aO,and_true,true_and];all_goals (repeat' first|exact CLe.refl _|exact True.intro| (refine ay ?_;first|rfl| (simp only[List.take_zero];done)) |exact aV (by omega) |exact aB (by omega) |exact aJ (by omega) |exact aP (by omega) |with_reducible apply And.intro))
   all_goals (simp only[List.length_append,List.length_singleton];exact CLe.refl _)
  have c2o:=c2;replace c2:=eq_false c2;refine Tr.w hcx [] [some 17,some 18,some 19,some 20,some 21,some 22,some 23,some 24,some 25,some 26] [] rfl rfl rfl ?_ dy;refine aq rfl ?_;refine Tr.exit ?_;refine hK1 _ ?_;refine aa fun K7 hK7=>?_;have c7o:=c2o;have c7:=c2;have hI:=hRI.stop (fun q=>c2o q.2);rw[hI] at hW;have hle:s1.length≤b.length:=by have:=wkR_r.le (b,0);rw[hW] at this;exact this
  have hR:=tX hW c7o;refine Tr.w hcx [] _ [] rfl rfl rfl ?_ dy;refine aG rfl ?_;refine cf hcx bM [1000065] _ [] rfl rfl rfl rfl ?_ ua;refine Tr.k [2,3,4] ?_;first| (refine Tr.bxc 0 0 (sl vC .no []) _ rfl rfl (CLe.nil _) rfl ?_;simp only[List.set_cons_succ,List.set_cons_zero]) |skip
  exact Tr.ret yV
 have c1o:=c1;replace c1:=eq_false c1;have c2:=True.intro;refine Tr.w hcx [] [some 17,some 18,some 19,some 20,some 21,some 22,some 23,some 24,some 25,some 26] [] rfl rfl rfl ?_ dy;refine aq rfl ?_;refine Tr.exit ?_;refine hK1 _ ?_;refine aa fun K8 hK8=>?_;by_cases c7:e1=0
 ·
  have c7o:=c7;replace c7:=eq_true c7;have hI:=hRI.stop (fun q=>c1o q.1);rw[hI] at hW;have hle:s1.length≤b.length:=by have:=wkR_r.le (b,0);rw[hW] at this;exact this
  have hR:=F7 hW c7o;refine Tr.w hcx [] _ [] rfl rfl rfl ?_ dy;refine aq rfl ?_;refine Tr.skip ?_;refine hK8 _ ?_;refine Tr.k [0,2,5,6] ?_;refine cf hcx bM [1000074] _ [] rfl rfl rfl rfl ?_ ua;first| (refine Tr.bxc 0 0 (sl vC .no []) _ rfl rfl (CLe.nil _) rfl ?_;simp only[List.set_cons_succ,List.set_cons_zero]) |skip
  exact Tr.ret yV
 have c7o:=c7;replace c7:=eq_false c7;have hI:=hRI.stop (fun q=>c1o q.1);rw[hI] at hW;have hle:s1.length≤b.length:=by have:=wkR_r.le (b,0);rw[hW] at this;exact this
 have hR:=tX hW c7o;refine Tr.w hcx [] _ [] rfl rfl rfl ?_ dy;refine aG rfl ?_;refine cf hcx bM [1000065] _ [] rfl rfl rfl rfl ?_ ua;refine Tr.k [2,3,4] ?_;first| (refine Tr.bxc 0 0 (sl vC .no []) _ rfl rfl (CLe.nil _) rfl ?_;simp only[List.set_cons_succ,List.set_cons_zero]) |skip
 exact Tr.ret yV
section
variable {gl:Nat→C} {pu:Nat→List C→Option C} {M:Nat}
def Kn (f:Nat):Bool:=[79,80,83,90,91,104,108,117,118,119].contains f
noncomputable def yX (pu:Nat→List C→Option C):Nat→List C→Option C:=fun f xs=>if Kn f then none else pu f xs
theorem ey {f:Nat}(h:Kn f=false)(xs:List C):yX pu f xs=pu f xs:=by unfold yX;rw[h];rfl
theorem fl {f:Nat}(h:Kn f=true)(xs:List C):yX pu f xs=none:=by unfold yX;rw[h];rfl
theorem j7 (hcx:CxOK (ax gl M pu)):CxOK (cJ gl 0 (yX pu) (fun _ _ _=>none)):=by
 refine ⟨hcx.glo,fun f xs c hc h=>?_,(fun _ _ _ _ _ h=>by cases h),Gr⟩;have hc:yX pu f xs=some c:=hc;unfold yX at hc;split at hc
 . cases hc
 . exact hcx.pu f xs c hc h
theorem yY {a b:ba}:rC a=rC b↔a=b:=by
 refine ⟨fun h=>?_,fun h=>by rw[h]⟩;simp only[rC,List.cons.injEq,kX,C.val.injEq,me,and_true] at h;exact Prod.ext h.1 h.2
theorem oD (s:ba):noRefs 0 (rC s) =true:=by
 have h: (noRefs 0 (rC s) && true) =true:=wv 0 s
 rwa [Bool.and_true] at h
theorem One.top {f:Nat}{α:Type}(S:One Tryd.prog gl f α)(hp:Nat→List C→Hp→Option (C×Hp))(xs:List C)(h:∃b o,C.bp b o∈xs):S.tab hp f xs [] =some (.top,[none]):=
 (jt _ _).trans (kl S.ij (.inr ⟨xs,h⟩))
noncomputable def mQ (f:Nat)(ar:Nat→List C)(g:ba→C)(k:ba→ba)(D:ba→Prop)(hg:∀s,ae 0 (g s) =true)(hm:∀b,mvCs [b] (ar b) =ar 0)(hb:∀b,C.bp b 0∈ar b)
 (hf:∀s:ba,D s→FC Tryd.prog gl f (ar 0) [some (rC s)] (g s) [some (rC (k s))]):One Tryd.prog gl f {x:ba // D x} where
 args _ b:=ar b
 X a:=rC a.1
 r a:=g a.1
 Y a:=rC (k a.1)
 nx a:=oD _
 nr a:=hg _
 ny a:=oD _
 mv _ b:=hm b
 bp _ b:=⟨0,hb b⟩
 inj a a' _ h:=by
  have e:=yY.1 h;rw[e];exact ⟨rfl,rfl⟩
 fc a:=hf a.1 a.2
theorem fH {f:Nat}{ar:Nat→List C}{g:ba→C}{k:ba→ba}{D:ba→Prop}{hg hm hb}{hf:∀s:ba,D s→FC Tryd.prog gl f (ar 0) [some (rC s)] (g s) [some (rC (k s))]}(hp:Nat→List C→Hp→Option (C×Hp))(s:ba)(h:D s)(b:Nat):
 ec ((mQ f ar g k D hg hm hb hf).tab hp) f (ar b) b (rC s) =some (rC (k s),g s):=(mQ f ar g k D hg hm hb hf).look hp ⟨s,h⟩ b
noncomputable def ud (f:Nat)(ar:Bool→Nat→List C)(g:Bool→ba→C)(k:Bool→ba→ba)(D:ba→Prop)(hg:∀i s,ae 0 (g i s) =true)(hm:∀i b,mvCs [b] (ar i b) =ar i 0)(hb:∀i b,C.bp b 0∈ar i b)(hi:ar true 0≠ar false 0)
 (hf:∀i (s:ba),D s→FC Tryd.prog gl f (ar i 0) [some (rC s)] (g i s) [some (rC (k i s))]):One Tryd.prog gl f (Bool× {x:ba // D x}) where
 args a b:=ar a.1 b
 X a:=rC a.2.1
 r a:=g a.1 a.2.1
 Y a:=rC (k a.1 a.2.1)
 nx a:=oD _
 nr a:=hg _ _
 ny a:=oD _
 mv a b:=hm a.1 b
 bp a b:=⟨0,hb a.1 b⟩
 inj a a' h1 h2:=by
  obtain ⟨i,x⟩:=a;obtain ⟨j,y⟩:=a';have e:=yY.1 h2;have e2:i=j:=by
   cases i<;>cases j
   . rfl
   . exact absurd h1.symm hi
   . exact absurd h1 hi
   . rfl
  subst e2;simp only at e;show g i x.1=g i y.1∧rC (k i x.1) =rC (k i y.1);rw[e];exact ⟨rfl,rfl⟩
 fc a:=hf a.1 a.2.1 a.2.2
theorem lG {f:Nat}{ar:Bool→Nat→List C}{g:Bool→ba→C}{k:Bool→ba→ba}{D:ba→Prop}{hg hm hb hi}{hf:∀i (s:ba),D s→FC Tryd.prog gl f (ar i 0) [some (rC s)] (g i s) [some (rC (k i s))]}(hp:Nat→List C→Hp→Option (C×Hp))(i:Bool)(s:ba)(h:D s)(b:Nat):
 ec ((ud f ar g k D hg hm hb hi hf).tab hp) f (ar i b) b (rC s) =some (rC (k i s),g i s):=(ud f ar g k D hg hm hb hi hf).look hp (i,⟨s,h⟩) b
def SM (s:ba):Prop:=s.1.length< 1099511627776∧s.2≤10
theorem mR {f:Nat}{a:List C}{h h':Hp}{c:C}(F:FC Tryd.prog gl f a h c h'):jB Tryd.prog f:=F.1
end
section
variable {gl:Nat→C} {pu:Nat→List C→Option C} {M:Nat}
theorem WT (b o:Nat):aU [b] (.bp b o) = .bp 0 o:=by simp[aU,dA]
theorem jb (b:Nat)(xs:List C)(h:mvCs [b] xs=xs):mvCs [b] (.bp b 0::xs) = .bp 0 0::xs:=by simp only[mvCs,WT,h]
theorem rF:SM ([],0):=⟨by decide,by decide⟩
theorem fU {b o:Nat}{xs:List C}:∃b' o',C.bp b' o'∈C.bp b o::xs:=⟨b,o,List.mem_cons_self ..⟩
theorem F79 (hcx:CxOK (ax gl M pu))(h105:∀b:List UInt8,b.length< 1099511627776→pu 105 [sl bC .no b] =some (.tup [.val (.int .i64 (ab b).1),.val (nI (ab b).2.1),.val (nI (ab b).2.2)]))(h106:∀n:Int,pu 106 [.val (.int .i64 n)] =some (.val (.bool (fN n)))):∀s:ba,SM s→FC Tryd.prog gl 79 ([.bp 0 0]) [some (rC s)] (.val (.int .i64 (bq s).1)) [some (rC (bq s).2)]:=by
 have h0:=j7 hcx;have f104:∀s:ba,SM s→FC Tryd.prog gl 104 ([.bp 0 0,.fn 105 [],.fn 106 []]) [some (rC s)] (.val (.int .i64 (bq s).1)) [some (rC (bq s).2)]:=fun s h=>ZB h0 s.1 s.2 h.1 h.2 (by intros;rw[ey rfl];apply h105<;>assumption) (by intros;rw[ey rfl];apply h106)
 let S:=mQ 104 (fun b=>[.bp b 0,.fn 105 [],.fn 106 []]) (fun s=> .val (.int .i64 (bq s).1)) (fun s=>(bq s).2) SM (fun s=>by first|rfl|simp only[bf,ae,noRefs,pC,aC,Bool.and_self]) (fun b=>jb b _ (by simp only[mvCs,aU])) (fun _=>List.mem_cons_self ..) f104
 have h1:=dg (M:=0) h0 (mR (f104 _ rF)) S;exact fun s h=>adl h1 s.1 s.2 h.1 h.2 (fun xs=>fl rfl xs) (fun b=>S.top _ _ fU) (fun b s e h=>fH _ (s,e) h b)
theorem F83 (hcx:CxOK (ax gl M pu))(h81:∀b:List UInt8,b.length< 1099511627776→pu 81 [sl bC .no b] =some (.tup [.val (str (bJ b).1),.val (nI (bJ b).2.1),.val (nI (bJ b).2.2)]))(h111:∀s:List UInt8,pu 111 [.val (str s)] =some (.val (.bool (fT s))))(h82:∀s:List UInt8,pu 82 [.val (str s)] =some (.val (.bool (fT s))))(h109:∀b:List UInt8,b.length< 1099511627776→pu 109 [sl bC .no b] =some (.tup [sl iC .no (aS ab 1 b).1,.val (nI (aS ab 1 b).2.1),.val (nI (aS ab 1 b).2.2)]))(h110:∀l:List Int,l.length< 1099511627776→pu 110 [sl iC .no l] =some (.val (.bool (f5 l))))(h112:∀l:List Int,l.length< 1099511627776→pu 112 [sl iC .no l] =some (.val (.bool (f3 l)))):∀s:ba,SM s→FC Tryd.prog gl 83 ([.bp 0 0]) [some (rC s)] (.agg (pC (cS s).1)) [some (rC (cS s).2)]:=by
 have h0:=j7 hcx;have f80:∀s:ba,SM s→FC Tryd.prog gl 80 ([.bp 0 0,.fn 81 [],.fn 82 []]) [some (rC s)] (.val (str (bR s).1)) [some (rC (bR s).2)]:=fun s h=>WD h0 s.1 s.2 h.1 h.2 (by intros;rw[ey rfl];apply h81<;>assumption) (by intros;rw[ey rfl];apply h82);have f80b:∀s:ba,SM s→FC Tryd.prog gl 80 ([.bp 0 0,.fn 81 [],.fn 111 []]) [some (rC s)] (.val (str (bR s).1)) [some (rC (bR s).2)]:=fun s h=>LJ h0 s.1 s.2 h.1 h.2 (by intros;rw[ey rfl];apply h81<;>assumption) (by intros;rw[ey rfl];apply h111);have f108:∀s:ba,SM s→FC Tryd.prog gl 108 ([.bp 0 0,.fn 109 [],.fn 110 []]) [some (rC s)] (sl iC .no (dH s).1) [some (rC (dH s).2)]:=fun s h=>ZC h0 s.1 s.2 h.1 h.2 (by intros;rw[ey rfl];apply h109<;>assumption) (by intros;rw[ey rfl];apply h110<;>assumption);have f108b:∀s:ba,SM s→FC Tryd.prog gl 108 ([.bp 0 0,.fn 109 [],.fn 112 []]) [some (rC s)] (sl iC .no (eU s).1) [some (rC (eU s).2)]:=fun s h=>WE h0 s.1 s.2 h.1 h.2 (by intros;rw[ey rfl];apply h109<;>assumption) (by intros;rw[ey rfl];apply h112<;>assumption)
 let S:=ud 80 (fun i b=>bif i then [.bp b 0,.fn 81 [],.fn 82 []] else [.bp b 0,.fn 81 [],.fn 111 []]) (fun i s=>bif i then .val (str (bR s).1) else .val (str (bR s).1)) (fun i s=>bif i then (bR s).2 else (bR s).2) SM (fun i s=>by cases i<;>first|rfl|simp only[cond_true,cond_false,bf]) (fun i b=>by cases i<;>exact jb b _ (by simp only[mvCs,aU])) (fun i _=>by cases i<;>exact List.mem_cons_self ..) (by simp) (fun i s h=>by cases i;exact f80b s h;exact f80 s h)
 let U:=ud 108 (fun i b=>bif i then [.bp b 0,.fn 109 [],.fn 110 []] else [.bp b 0,.fn 109 [],.fn 112 []]) (fun i s=>bif i then sl iC .no (dH s).1 else sl iC .no (eU s).1) (fun i s=>bif i then (dH s).2 else (eU s).2) SM (fun i s=>by cases i<;>first|rfl|simp only[cond_true,cond_false,bf]) (fun i b=>by cases i<;>exact jb b _ (by simp only[mvCs,aU])) (fun i _=>by cases i<;>exact List.mem_cons_self ..) (by simp) (fun i s h=>by cases i;exact f108b s h;exact f108 s h)
 have h1:=dg (M:=0) h0 (mR (f80 _ rF)) S;have h2:=dg (M:=0) h1 (mR (f108 _ rF)) U;exact fun s h=>adm h2 s.1 s.2 h.1 h.2 (fun xs=>fl rfl xs) (fun b=>(U.miss _ (by decide) _ _).trans (S.top _ _ fU)) (fun b s e h=>(U.missC _ (by decide) _ _ _).trans (lG _ false (s,e) h b)) (fun xs=>fl rfl xs) (fun b=>U.top _ _ fU) (fun b s e h=>lG _ true (s,e) h b) (fun b=>U.top _ _ fU) (fun b s e h=>lG _ false (s,e) h b)
theorem Z2 {gl:Nat→C}{M:Nat}{pu:Nat→List C→Option C}(hcx:CxOK (ax gl M pu))(h105:∀b:List UInt8,b.length< 1099511627776→pu 105 [sl bC .no b] =some (.tup [.val (.int .i64 (ab b).1),.val (nI (ab b).2.1),.val (nI (ab b).2.2)]))(h106:∀n:Int,pu 106 [.val (.int .i64 n)] =some (.val (.bool (fN n))))(h81:∀b:List UInt8,b.length< 1099511627776→pu 81 [sl bC .no b] =some (.tup [.val (str (bJ b).1),.val (nI (bJ b).2.1),.val (nI (bJ b).2.2)]))(h82:∀s:List UInt8,pu 82 [.val (str s)] =some (.val (.bool (fT s))))(h111:∀s:List UInt8,pu 111 [.val (str s)] =some (.val (.bool (fT s))))(h109:∀b:List UInt8,b.length< 1099511627776→pu 109 [sl bC .no b] =some (.tup [sl iC .no (aS ab 1 b).1,.val (nI (aS ab 1 b).2.1),.val (nI (aS ab 1 b).2.2)]))(h110:∀l:List Int,l.length< 1099511627776→pu 110 [sl iC .no l] =some (.val (.bool (f5 l))))(h112:∀l:List Int,l.length< 1099511627776→pu 112 [sl iC .no l] =some (.val (.bool (f3 l))))(b:List UInt8)(hb:b.length≤200000000000):FC Tryd.prog gl 43 [sl bC .no b] [] (.tup [.agg [sl vC .no (dw b).1],.val (nI (dw b).2.1),.val (nI (dw b).2.2)]) []:=by
 have h0:=j7 hcx;have f79:=F79 hcx h105 h106;have f83:=F83 hcx h81 h111 h82 h109 h110 h112;have f80:∀s:ba,SM s→FC Tryd.prog gl 80 ([.bp 0 0,.fn 81 [],.fn 82 []]) [some (rC s)] (.val (str (bR s).1)) [some (rC (bR s).2)]:=fun s h=>WD h0 s.1 s.2 h.1 h.2 (by intros;rw[ey rfl];apply h81<;>assumption) (by intros;rw[ey rfl];apply h82);have f80b:∀s:ba,SM s→FC Tryd.prog gl 80 ([.bp 0 0,.fn 81 [],.fn 111 []]) [some (rC s)] (.val (str (bR s).1)) [some (rC (bR s).2)]:=fun s h=>LJ h0 s.1 s.2 h.1 h.2 (by intros;rw[ey rfl];apply h81<;>assumption) (by intros;rw[ey rfl];apply h111)
 let R:=mQ 79 (fun b=>[.bp b 0]) (fun s=> .val (.int .i64 (bq s).1)) (fun s=>(bq s).2) SM (fun s=>by first|rfl|simp only[bf,ae,noRefs,pC,aC,Bool.and_self]) (fun b=>jb b _ (by simp only[mvCs,aU])) (fun _=>List.mem_cons_self ..) f79
 let S:=ud 80 (fun i b=>bif i then [.bp b 0,.fn 81 [],.fn 82 []] else [.bp b 0,.fn 81 [],.fn 111 []]) (fun i s=>bif i then .val (str (bR s).1) else .val (str (bR s).1)) (fun i s=>bif i then (bR s).2 else (bR s).2) SM (fun i s=>by cases i<;>first|rfl|simp only[cond_true,cond_false,bf]) (fun i b=>by cases i<;>exact jb b _ (by simp only[mvCs,aU])) (fun i _=>by cases i<;>exact List.mem_cons_self ..) (by simp) (fun i s h=>by cases i;exact f80b s h;exact f80 s h)
 let U:=mQ 83 (fun b=>[.bp b 0]) (fun s=> .agg (pC (cS s).1)) (fun s=>(cS s).2) SM (fun s=>by first|rfl|simp only[bf,ae,noRefs,pC,aC,Bool.and_self]) (fun b=>jb b _ (by simp only[mvCs,aU])) (fun _=>List.mem_cons_self ..) f83
 have h1:=dg (M:=0) h0 (mR (f79 _ rF)) R;have h2:=dg (M:=0) h1 (mR (f80 _ rF)) S;have h3:=dg (M:=0) h2 (mR (f83 _ rF)) U;exact adn h3 b hb (fun xs=>fl rfl xs) (fun b=>(U.miss _ (by decide) _ _).trans ((S.miss _ (by decide) _ _).trans (R.top _ _ fU))) (fun b s e h=>(U.missC _ (by decide) _ _ _).trans ((S.missC _ (by decide) _ _ _).trans (fH _ (s,e) h b))) (fun xs=>fl rfl xs) (fun b=>(U.miss _ (by decide) _ _).trans (S.top _ _ fU)) (fun b s e h=>(U.missC _ (by decide) _ _ _).trans (lG _ true (s,e) h b)) (fun xs=>fl rfl xs) (fun b=>U.top _ _ fU) (fun b s e h=>fH _ (s,e) h b)
def WU (x:ba×Nat×Nat×Bool):Prop:=x.1.1.length< 1099511627776∧x.1.2≤10∧x.2.2.1≤10∧x.2.1≤x.1.1.length
noncomputable def nF (hcx:CxOK (ax gl M pu)):One Tryd.prog gl 117 {x:ba×Nat×Nat×Bool // WU x} where
 args a b:=[.bp b 0,.val (nI a.1.2.1),.val (nI a.1.2.2.1),.val (.bool a.1.2.2.2)]
 X a:=rC a.1.1
 r a:= .val (.bool (gu a.1.1 a.1.2.1 a.1.2.2.1 a.1.2.2.2).1)
 Y a:=rC (gu a.1.1 a.1.2.1 a.1.2.2.1 a.1.2.2.2).2
 nx a:=oD _
 nr a:=rfl
 ny a:=oD _
 mv a b:=jb b _ (by simp only[mvCs,aU])
 bp a b:=⟨0,List.mem_cons_self ..⟩
 inj a a' h1 h2:=by
  have e:=yY.1 h2;simp only[List.cons.injEq,C.val.injEq,me,Value.bool.injEq,and_true,true_and] at h1;have e2:a.1=a'.1:=Prod.ext e (Prod.ext h1.1 (Prod.ext h1.2.1 h1.2.2));rw[e2];exact ⟨rfl,rfl⟩
 fc a:=ZH (j7 hcx) a.1.1.1 a.1.1.2 a.1.2.1 a.1.2.2.1 a.1.2.2.2 a.2.1 a.2.2.1 a.2.2.2.1 a.2.2.2.2
theorem Ko (hcx:CxOK (ax gl M pu)):FC Tryd.prog gl 117 [.bp 0 0,.val (nI 0),.val (nI 0),.val (.bool false)] [some (rC ([],0))] (.val (.bool (gu ([],0) 0 0 false).1)) [some (rC (gu ([],0) 0 0 false).2)]:=(nF hcx).fc ⟨(([],0),0,0,false),by unfold WU;decide⟩
theorem WV (hcx:CxOK (ax gl M pu))(h125:∀b:List UInt8,b.length< 1099511627776→pu 125 [sl bC .no b] =some (.tup [.val (str (bJ b).1),.val (nI (bJ b).2.1),.val (nI (bJ b).2.2)])):∀s:ba,SM s→FC Tryd.prog gl 118 ([.bp 0 0]) [some (rC s)] (.val (str (bR s).1)) [some (rC (bR s).2)]:=by
 have h0:=j7 hcx;have h1:=dg (M:=0) h0 (mR (Ko hcx)) (nF hcx);exact fun s h=>ZI h1 s.1 s.2 h.1 h.2 (by intros;rw[ey rfl];apply h125<;>assumption) (fun xs=>fl rfl xs) (fun b n e f=>(nF hcx).top _ _ fU) (fun b s er n e f h=>(nF hcx).look _ ⟨((s,er),n,e,f),h⟩ b)
theorem F90 (hcx:CxOK (ax gl M pu))(h116:∀b:List UInt8,b.length< 1099511627776→pu 116 [sl bC .no b] =some (.tup [.val (.int .i64 (ab b).1),.val (nI (ab b).2.1),.val (nI (ab b).2.2)])):∀s:ba,SM s→FC Tryd.prog gl 90 ([.bp 0 0]) [some (rC s)] (.val (.int .i64 (bq s).1)) [some (rC (bq s).2)]:=by
 have h0:=j7 hcx;have h1:=dg (M:=0) h0 (mR (Ko hcx)) (nF hcx);exact fun s h=>ado h1 s.1 s.2 h.1 h.2 (by intros;rw[ey rfl];apply h116<;>assumption) (fun xs=>fl rfl xs) (fun b n e f=>(nF hcx).top _ _ fU) (fun b s er n e f h=>(nF hcx).look _ ⟨((s,er),n,e,f),h⟩ b)
def SM0 (s:ba):Prop:=s.1.length< 1099511627776∧s.2=0
def SM3 (s:ba):Prop:=s.1.length≤300000000000∧s.2≤10
theorem adu (hcx:CxOK (ax gl M pu))(h125:∀b:List UInt8,b.length< 1099511627776→pu 125 [sl bC .no b] =some (.tup [.val (str (bJ b).1),.val (nI (bJ b).2.1),.val (nI (bJ b).2.2)]))(h126:∀b:List UInt8,b.length< 1099511627776→pu 126 [sl bC .no b] =some (.tup [sl iC .no (aS ab 1 b).1,.val (nI (aS ab 1 b).2.1),.val (nI (aS ab 1 b).2.2)])):∀s:ba,SM0 s→FC Tryd.prog gl 119 ([.bp 0 0]) [some (rC s)] (.agg (pC (cS s).1)) [some (rC (cS s).2)]:=by
 have h0:=j7 hcx;have f118:=WV hcx h125
 let U:=mQ 118 (fun b=>[.bp b 0]) (fun s=> .val (str (bR s).1)) (fun s=>(bR s).2) SM (fun s=>by first|rfl|simp only[bf,ae,noRefs,pC,aC,Bool.and_self]) (fun b=>jb b _ (by simp only[mvCs,aU])) (fun _=>List.mem_cons_self ..) f118
 have h1:=dg (M:=0) h0 (mR (Ko hcx)) (nF hcx);have h2:=dg (M:=0) h1 (mR (f118 _ rF)) U;rintro ⟨s,e⟩ ⟨q1,q2⟩;simp only at q1 q2;subst q2;exact ZW h2 s q1 (by intros;rw[ey rfl];apply h126<;>assumption) (fun xs=>fl rfl xs) (fun b n e f=>(U.miss _ (by decide) _ _).trans ((nF hcx).top _ _ fU)) (fun b s er n e f h=>(U.missC _ (by decide) _ _ _).trans ((nF hcx).look _ ⟨((s,er),n,e,f),h⟩ b)) (fun xs=>fl rfl xs) (fun b=>U.top _ _ fU) (fun b s e h=>fH _ (s,e) h b)
theorem F91 (hcx:CxOK (ax gl M pu))(h116:∀b:List UInt8,b.length< 1099511627776→pu 116 [sl bC .no b] =some (.tup [.val (.int .i64 (ab b).1),.val (nI (ab b).2.1),.val (nI (ab b).2.2)]))(h125:∀b:List UInt8,b.length< 1099511627776→pu 125 [sl bC .no b] =some (.tup [.val (str (bJ b).1),.val (nI (bJ b).2.1),.val (nI (bJ b).2.2)]))(h126:∀b:List UInt8,b.length< 1099511627776→pu 126 [sl bC .no b] =some (.tup [sl iC .no (aS ab 1 b).1,.val (nI (aS ab 1 b).2.1),.val (nI (aS ab 1 b).2.2)])):∀s:ba,SM3 s→FC Tryd.prog gl 91 ([.bp 0 0]) [some (rC s)] (.agg (aC (dU s).1)) [some (rC (dU s).2)]:=by
 have h0:=j7 hcx;have f118:=WV hcx h125;have f90:=F90 hcx h116;have f119:=adu hcx h125 h126
 let R:=mQ 118 (fun b=>[.bp b 0]) (fun s=> .val (str (bR s).1)) (fun s=>(bR s).2) SM (fun s=>by first|rfl|simp only[bf,ae,noRefs,pC,aC,Bool.and_self]) (fun b=>jb b _ (by simp only[mvCs,aU])) (fun _=>List.mem_cons_self ..) f118
 let S:=mQ 90 (fun b=>[.bp b 0]) (fun s=> .val (.int .i64 (bq s).1)) (fun s=>(bq s).2) SM (fun s=>by first|rfl|simp only[bf,ae,noRefs,pC,aC,Bool.and_self]) (fun b=>jb b _ (by simp only[mvCs,aU])) (fun _=>List.mem_cons_self ..) f90
 let U:=mQ 119 (fun b=>[.bp b 0]) (fun s=> .agg (pC (cS s).1)) (fun s=>(cS s).2) SM0 (fun s=>by first|rfl|simp only[bf,ae,noRefs,pC,aC,Bool.and_self]) (fun b=>jb b _ (by simp only[mvCs,aU])) (fun _=>List.mem_cons_self ..) f119
 have h1:=dg (M:=0) h0 (mR (f118 _ rF)) R;have h2:=dg (M:=0) h1 (mR (f90 _ rF)) S;have h3:=dg (M:=0) h2 (mR (f119 ([],0) ⟨by decide,rfl⟩)) U;exact fun s h=>adp h3 s.1 s.2 h.1 h.2 (fun xs=>fl rfl xs) (fun b=>(U.miss _ (by decide) _ _).trans ((S.miss _ (by decide) _ _).trans (R.top _ _ fU))) (fun b s e h=>(U.missC _ (by decide) _ _ _).trans ((S.missC _ (by decide) _ _ _).trans (fH _ (s,e) h b))) (fun xs=>fl rfl xs) (fun b=>(U.miss _ (by decide) _ _).trans (S.top _ _ fU)) (fun b s e h=>(U.missC _ (by decide) _ _ _).trans (fH _ (s,e) h b)) (fun xs=>fl rfl xs) (fun b=>U.top _ _ fU) (fun b s h=>fH _ (s,0) ⟨h,rfl⟩ b)
theorem Z3 {gl:Nat→C}{M:Nat}{pu:Nat→List C→Option C}(hcx:CxOK (ax gl M pu))(h116:∀b:List UInt8,b.length< 1099511627776→pu 116 [sl bC .no b] =some (.tup [.val (.int .i64 (ab b).1),.val (nI (ab b).2.1),.val (nI (ab b).2.2)]))(h125:∀b:List UInt8,b.length< 1099511627776→pu 125 [sl bC .no b] =some (.tup [.val (str (bJ b).1),.val (nI (bJ b).2.1),.val (nI (bJ b).2.2)]))(h126:∀b:List UInt8,b.length< 1099511627776→pu 126 [sl bC .no b] =some (.tup [sl iC .no (aS ab 1 b).1,.val (nI (aS ab 1 b).2.1),.val (nI (aS ab 1 b).2.2)]))(b:List UInt8)(hb:b.length≤200000000000):FC Tryd.prog gl 50 [sl bC .no b] [] (.tup [.agg [sl vC .no (dw b).1],.val (nI (dw b).2.1),.val (nI (dw b).2.2)]) []:=by
 have h0:=j7 hcx;have f90:=F90 hcx h116;have f91:=F91 hcx h116 h125 h126
 let R:=mQ 90 (fun b=>[.bp b 0]) (fun s=> .val (.int .i64 (bq s).1)) (fun s=>(bq s).2) SM (fun s=>by first|rfl|simp only[bf,ae,noRefs,pC,aC,Bool.and_self]) (fun b=>jb b _ (by simp only[mvCs,aU])) (fun _=>List.mem_cons_self ..) f90
 let U:=mQ 91 (fun b=>[.bp b 0]) (fun s=> .agg (aC (dU s).1)) (fun s=>(dU s).2) SM3 (fun s=>by first|rfl|simp only[bf,ae,noRefs,pC,aC,Bool.and_self]) (fun b=>jb b _ (by simp only[mvCs,aU])) (fun _=>List.mem_cons_self ..) f91
 have h1:=dg (M:=0) h0 (mR (f90 _ rF)) R;have h2:=dg (M:=0) h1 (mR (f91 ([],0) ⟨by decide,by decide⟩)) U;exact adq h2 b hb (fun xs=>fl rfl xs) (fun b=>(U.miss _ (by decide) _ _).trans (R.top _ _ fU)) (fun b s e h=>(U.missC _ (by decide) _ _ _).trans (fH _ (s,e) h b)) (fun xs=>fl rfl xs) (fun b=>U.top _ _ fU) (fun b s e h=>fH _ (s,e) h b)
end
theorem Gm {s t:S8}:s.l=t.l↔s=t:=by
 constructor
 . intro h
   obtain ⟨a,b,c,d,e,f,g,i⟩:=s;obtain ⟨a',b',c',d',e',f',g',i'⟩:=t;simpa[S8.l] using h
 . rintro rfl;rfl
theorem vT {s s':S8}{b b':List UInt8}{n n':Nat}(hb:b.length=64)(hb':b'.length=64)(h:cl wC s.l++(cl bC b++[C.val (nU n)]) =cl wC s'.l++(cl bC b'++[C.val (nU n')])):s=s'∧b=b'∧n=n':=by
 rw[zQ (f:=wC) (by rw[ef,ef]),zQ (f:=bC) (by rw[hb,hb'])] at h;simp only[Gm,List.cons.injEq,C.val.injEq,Dy,and_true] at h;exact h
theorem Kp (s s':S8)(b b':List UInt8)(n n':Nat)(t t':List UInt8)(hb:b.length=64)(hb':b'.length=64)
 (h: [C.agg (cl wC s.l++(cl bC b++[C.val (nU n)])),C.val (str t)] = [C.agg (cl wC s'.l++(cl bC b'++[C.val (nU n')])),C.val (str t')]):C.agg (d9 ⟨s,b,n⟩ t).cells=C.agg (d9 ⟨s',b',n'⟩ t').cells:=by
 simp only[List.cons.injEq,C.agg.injEq,C.val.injEq,nW,and_true] at h;obtain ⟨rfl,rfl,rfl⟩:=vT hb hb' h.1;rw[h.2]
theorem Qa (s s':S8)(b b':List UInt8)(n n':Nat)(hb:b.length=64)(hb':b'.length=64)
 (h: [C.agg (cl wC s.l++(cl bC b++[C.val (nU n)]))] = [C.agg (cl wC s'.l++(cl bC b'++[C.val (nU n')]))]):C.agg (cl bC (pO ⟨s,b,n⟩)) =C.agg (cl bC (pO ⟨s',b',n'⟩)):=by
 simp only[List.cons.injEq,C.agg.injEq,and_true] at h;obtain ⟨rfl,rfl,rfl⟩:=vT hb hb' h;rfl
theorem WW {x y:dG}:aC x=aC y↔x=y:=⟨fun h=>Inj.inj _ _ h,fun h=>by rw[h]⟩
theorem WX {x y:bE}:vC x=vC y↔x=y:=⟨fun h=>Inj.inj _ _ h,fun h=>by rw[h]⟩
theorem OM {p:Prop}(e:p:=by first|assumption|omega| (dsimp only;omega)):p:=e
structure Te where
 α:Type
 enc:α→List C
 out:α→C
 nr:∀x,noRefs 0 (enc x) =true:=by intro x;simp only[d7,io,ip,js,bf,bQ,cH,cV,fC,Bool.and_self,Bool.and_true,mh,eH]
 ij:∀x y,enc x=enc y→out x=out y:=by intro x y h;simp only[List.cons.injEq,C.val.injEq,C.agg.injEq,C.kp.injEq,C.fn.injEq,nW,me,Dy,Dx,zy,qa,kX,Vj,Vk,WW,WX,Value.int.injEq,Value.bool.injEq,true_and,and_true] at h;simp only[h]
structure Tb (gl:Nat→C) where
 pu:Nat→List C→Option C
 ok:∀M,CxOK (ax gl M pu)
 hnr:∀ (g:Nat)(xs:List C),noRefs 0 xs=false→pu g xs=none
 hno:∀ (g:Nat)(xs:List C),gb xs=true→pu g xs=none
noncomputable def Tb.zero {gl:Nat→C}(hgn:∀g,ae 0 (gl g) =true):Tb gl:=⟨fun _ _=>none,fun _=>CxOK.zero hgn,fun _ _ _=>rfl,Ii⟩
noncomputable def Tb.add {gl:Nat→C}(T:Tb gl)(f:Nat)(e:Te)(h:∀q,FC Tryd.prog gl f (e.enc q) [] (e.out q) []):Tb gl:=
 ⟨Sx.ext T.pu f (jq e.enc e.out),fun _=>D6 (N:=0) (T.ok 0) e.nr h,Pj T.hnr e.nr,NC T.hno e.nr⟩
theorem Tb.m {gl:Nat→C}{T:Tb gl}{f:Nat}{e:Te}{h:∀q,FC Tryd.prog gl f (e.enc q) [] (e.out q) []}{g:Nat}{xs:List C}{o:Option C}(q:T.pu g xs=o)(hg:g≠f:=by decide): (T.add f e h).pu g xs=o:=(oZ hg xs).trans q
theorem Tb.h {gl:Nat→C}{T:Tb gl}{f:Nat}{e:Te}{h:∀q,FC Tryd.prog gl f (e.enc q) [] (e.out q) []}(q:e.α): (T.add f e h).pu f (e.enc q) =some (e.out q):=(qM _).trans (C8 e.ij q)
noncomputable def yZ:Nat→C:=fun g=>if g=0 then .kp [.val (.int .i64 (-1)),.val (.int .i64 0),.val (.int .i64 0)] else if g=1 then .kp (cl wC kc) else .top
theorem Z4:yZ 0= .kp (iD (-1,0,0)):=rfl
theorem Z5:yZ 1= .kp (cl wC kc):=rfl
theorem Gn:∀g,ae 0 (yZ g) =true:=fun g=>by
 unfold yZ;split
 . rfl
 . split
   . simp only[ae];exact bQ wC 0 kc
   . rfl
end Go.Sx
