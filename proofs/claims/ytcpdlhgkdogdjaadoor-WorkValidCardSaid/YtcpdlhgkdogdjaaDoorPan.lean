/-
   And what follows.
-/
import Derived.DeepKeys4
import Derived.MapViews
import Derived.Test.YtcpdlhgkdogdjaaDoorPam
import Derived.Test.YtcpdlhgkdogdjaaDoorPak
import Derived.Test.YtcpdlhgkdogdjaaDoorPaj
set_option linter.unusedSimpArgs false
set_option linter.unusedVariables false
namespace Go.Sx
open Go.RowKit Go.Proofs
set_option maxRecDepth 100000
set_option maxHeartbeats 8000000
theorem gd {p:Prop}(e:p:=by intro KZ hZ;simp -implicitDefEqProofs (disch:=first|omega| (simp only[go_sem,lA,lD,lT] <;>omega) |decide) only[go_sem,↓reduceIte,Nat.reduceEqDiff,reduceCtorEq,Nat.reduceLT,Nat.reduceBEq,Nat.reduceAdd,ss,List.append_nil];with_reducible exact hZ):p:=e
theorem P0 {p:Prop}(e:p:=by intro c k KZ hZ;simp -implicitDefEqProofs (disch:=first|omega|decide) only[go_sem,↓reduceIte,Nat.reduceEqDiff,reduceCtorEq,Nat.reduceLT,Nat.reduceBEq,Nat.reduceAdd];with_reducible exact hZ):p:=e
theorem jc {p:Prop}(e:p:=by intro RZ hZ;simp only[wH,AQ,↓bF,↓reduceIte,Nat.reduceEqDiff,reduceCtorEq];exact hZ):p:=e
theorem FZ {p:Prop}(e:p:=by (repeat' (first|exact True.intro| (refine ⟨rfl,.inl ⟨rfl,by first|rfl|exact ax _ _ _ _⟩,?_⟩) | (refine ⟨rfl,.inr ⟨_,rfl,rfl⟩,?_⟩)))):p:=e
def sL (w:ah)(i:Nat):List C:=[.agg [.val (nI (gt (aS w) i).1.1),.val (nI (gt (aS w) i).1.2.1),.val (nI (gt (aS w) i).1.2.2)],.agg (pC (gt (aS w) i).2)]
def WB (w:ah):Prop:=w.length< 1099511627776∧(∀v,v< w.length→(gt w v).length< 1099511627776)∧∀v a,v< w.length→a< (gt w v).length→(gt (gt w v) a).2.length< 1099511627776
theorem vn {gl:Nat→C}{M:Nat}{pu:Nat→List C→Option C}(hcx:CxOK (aD gl M pu))(w:ah)(hw:WB w):
 ItrB Tryd.prog gl 93 [.kp [sl vC .no w]] (aS w).length (sL w) RowN:=by
 replace hcx:=hcx.reN (M:=44)
 refine ItrB.of (cx:=aD gl 44 pu) rfl Tryd.func93 rfl rfl rfl (by simp only[List.length_cons,List.length_nil];decide) ?_
 intro n l0 rec G I B h Y hY hst h0 hR
 have ss:=True.intro
 have hw1:=hw.1
 simp only[cZ,go_sem]
 refine TrY.w hcx [] _ [] rfl rfl rfl ?_ gd
 refine TrY.block ?_
 refine TrY.loop (fun m s=> ∃v,v≤w.length∧m=w.length - v∧I (oV w v) s.h∧Le s.env [(0,.val (.func (.yield l0) #[] #[])),(10,sl vC .no w),(11,.val (nI w.length)),(12,.val (nI v))]) w.length ⟨0,Nat.zero_le _,rfl,h0,LT⟩ ?_
 rintro m s ⟨v,hv,rfl,hIv,hle⟩
 refine TrY.live _ hle ?_
 generalize s.h=k at hIv ⊢
 refine TrY.w hcx [] _ [] rfl rfl rfl ?_ gd
 by_cases hc:v< w.length
 . refine TrY.seq (TrY.cond (b:=true) (by rw[f9];exact congrArg (fun b=>C.val (.bool b)) (decide_eq_true hc)) ?_)
   refine gu (Tr.skip (Q:=fun x s'=>x= .normal∧s'=_) ⟨rfl,rfl⟩) ?_
   rintro x s' ⟨rfl,rfl⟩
   refine ⟨fun _=>?_,fun c=>absurd rfl c⟩
   refine TrY.k [0,10,11,12] ?_ jc
   refine TrY.seq (TrY.block ?_)
   have hk:=hR _ k hIv
   obtain ⟨V,hV⟩:∃V,gt w v=V:=⟨_,rfl⟩
   have hVl:=hw.2.1 v hc
   rw[hV] at hVl
   have ss:=hV
   refine TrY.w hcx [1000014] _ [none] rfl rfl rfl ?_ gd
   refine TrY.w hcx [] _ [] rfl rfl rfl ?_ gd
   refine TrY.k [0,3,10,11,12,18,19,20] ?_ jc
   refine xa hcx hk (aH vC 0 V) (xg V) (by simp only[List.all_cons,List.all_nil,aF,ax,Bool.and_self]) ?_
   refine TrY.block ?_
   refine TrY.loop (fun m s=> ∃a,a≤V.length∧m=V.length - a∧I (oV w v+oA v V a) s.h∧Le s.env [(0,.val (.func (.yield l0) #[] #[])),(3,.val (nI v)),(10,sl vC .no w),(11,.val (nI w.length)),(12,.val (nI v)),(18,sl aC .no V),(19,.val (nI V.length)),(20,.val (nI a))]) V.length ⟨0,Nat.zero_le _,rfl,by rw[Pf];exact hIv,LT⟩ ?_
   rintro m s ⟨a,ha,rfl,hIa,hle⟩
   refine TrY.live _ hle ?_
   generalize s.h=k2 at hIa ⊢
   refine TrY.w hcx [] _ [] rfl rfl rfl ?_ gd
   by_cases hca:a< V.length
   . refine TrY.seq (TrY.cond (b:=true) (by rw[f9];exact congrArg (fun b=>C.val (.bool b)) (decide_eq_true hca)) ?_)
     refine gu (Tr.skip (Q:=fun x s'=>x= .normal∧s'=_) ⟨rfl,rfl⟩) ?_
     rintro x s' ⟨rfl,rfl⟩
     refine ⟨fun _=>?_,fun c=>absurd rfl c⟩
     refine TrY.k [0,3,10,11,12,18,19,20] ?_ jc
     refine TrY.seq (TrY.block ?_)
     have hk2:=hR _ k2 hIa
     obtain ⟨L,hL⟩:∃L,(gt V a).2=L:=⟨_,rfl⟩
     have hLl:=hw.2.2 v a hc (by rw[hV];exact hca)
     rw[hV,hL] at hLl
     have ss:=And.intro hV hL
     refine TrY.w hcx [1000022] _ [none] rfl rfl rfl ?_ gd
     refine TrY.w hcx [] _ [] rfl rfl rfl ?_ gd
     refine TrY.k [0,3,5,10,11,12,18,19,20,26,27,28] ?_ jc
     refine xa hcx hk2 (aH aC 0 (gt V a)) (xf (gt V a)) (by simp only[List.all_cons,List.all_nil,aF,ax,Bool.and_self]) ?_
     refine TrY.block ?_
     refine TrY.loop (fun m s=> ∃i,i≤L.length∧m=L.length - i∧I (oV w v+(oA v V a+i)) s.h∧Le s.env [(0,.val (.func (.yield l0) #[] #[])),(3,.val (nI v)),(5,.val (nI a)),(10,sl vC .no w),(11,.val (nI w.length)),(12,.val (nI v)),(18,sl aC .no V),(19,.val (nI V.length)),(20,.val (nI a)),(26,sl pC .no L),(27,.val (nI L.length)),(28,.val (nI i))]) L.length ⟨0,Nat.zero_le _,rfl,hIa,LT⟩ ?_
     rintro m s ⟨i,hi,rfl,hIi,hle⟩
     refine TrY.live _ hle ?_
     generalize s.h=k3 at hIi ⊢
     refine TrY.w hcx [] _ [] rfl rfl rfl ?_ gd
     by_cases hci:i< L.length
     . refine TrY.seq (TrY.cond (b:=true) (by rw[f9];exact congrArg (fun b=>C.val (.bool b)) (decide_eq_true hci)) ?_)
       refine gu (Tr.skip (Q:=fun x s'=>x= .normal∧s'=_) ⟨rfl,rfl⟩) ?_
       rintro x s' ⟨rfl,rfl⟩
       refine ⟨fun _=>?_,fun c=>absurd rfl c⟩
       refine TrY.k [0,3,5,10,11,12,18,19,20,26,27,28] ?_ jc
       refine TrY.seq (TrY.block ?_)
       have hk3:=hR _ k3 hIi
       have hg:=lX w v a i hc (by rw[hV];exact hca) (by rw[hV,hL];exact hci)
       rw[hV,hL] at hg
       refine TrY.w hcx [1000030] _ [none] rfl rfl rfl ?_ gd
       refine TrY.k [0,3,5,7,8,10,11,12,18,19,20,26,27,28] ?_ jc
       refine w9 hcx [(0,.val (.func (.yield l0) #[] #[])),(3,.val (nI v)),(5,.val (nI a)),(7,.val (nI i)),(8,.kp (pC (gt L i))),(10,sl vC .no w),(11,.val (nI w.length)),(12,.val (nI v)),(18,sl aC .no V),(19,.val (nI V.length)),(20,.val (nI a)),(26,sl pC .no L),(27,.val (nI L.length)),(28,.val (nI i))] (pC (gt L i)) hk3 (aH pC 0 (gt L i)) (xe _) rfl FZ ?_
       refine NS hcx hY 6 rfl (show 39< 44 by decide) rfl [] _ rfl rfl (fun post hp=>hst _ k3 post hg.2 hIi hp) gd rfl ?_ P0 ?_ ?_
       . unfold sL;rw[hg.1];rfl
       . intro k4 hk4
         refine TrY.cond (b:=false) rfl ?_
         refine gu (Tr.skip (Q:=fun x s'=>x= .normal∧s'=_) ⟨rfl,rfl⟩) ?_
         rintro x s' ⟨rfl,rfl⟩
         refine ⟨fun _=>?_,fun c=>absurd rfl c⟩
         refine TrY.k [0,3,5,10,11,12,18,19,20,26,27,28] ?_ jc
         refine TrY.v hcx [] _ [] rfl rfl rfl ?_ gd
         exact ⟨rfl,L.length - (i+1),by omega,i+1,by omega,rfl,hk4,LT⟩
       . intro j k4 hk4
         exact bn rfl (Tr.ret hk4)
     . refine TrY.seq (TrY.cond (b:=false) (by rw[f9];exact congrArg (fun b=>C.val (.bool b)) (decide_eq_false hci)) ?_)
       refine gu (Tr.exit (Q:=fun x s'=>x= .exit 4∧s'=_) ⟨rfl,rfl⟩) ?_
       rintro x s' ⟨rfl,rfl⟩
       obtain rfl:i=L.length:=by omega
       refine ⟨fun _=>?_,fun c=>absurd rfl c⟩
       refine TrY.k [0,3,10,11,12,18,19,20] ?_ jc
       refine TrY.v hcx [] _ [] rfl rfl rfl ?_ gd
       exact ⟨rfl,V.length - (a+1),by omega,a+1,by omega,rfl,by rw[FV,hL];exact hIi,LT⟩
   . refine TrY.seq (TrY.cond (b:=false) (by rw[f9];exact congrArg (fun b=>C.val (.bool b)) (decide_eq_false hca)) ?_)
     refine gu (Tr.exit (Q:=fun x s'=>x= .exit 2∧s'=_) ⟨rfl,rfl⟩) ?_
     rintro x s' ⟨rfl,rfl⟩
     obtain rfl:a=V.length:=by omega
     refine ⟨fun _=>?_,fun c=>absurd rfl c⟩
     refine TrY.k [0,10,11,12] ?_ jc
     refine TrY.v hcx [] _ [] rfl rfl rfl ?_ gd
     exact ⟨rfl,w.length - (v+1),by omega,v+1,by omega,rfl,by rw[FY,hV,←FW];exact hIa,LT⟩
 . refine TrY.seq (TrY.cond (b:=false) (by rw[f9];exact congrArg (fun b=>C.val (.bool b)) (decide_eq_false hc)) ?_)
   refine gu (Tr.exit (Q:=fun x s'=>x= .exit 0∧s'=_) ⟨rfl,rfl⟩) ?_
   rintro x s' ⟨rfl,rfl⟩
   obtain rfl:v=w.length:=by omega
   rw[F6] at hIv
   exact hIv
theorem RowN.c {n:Nat}{h:Hp}{l:List C}(H:RowN n h)(h1:noRefs 0 l=true)(h2:aP (some l) =some l):RowN (n+1) (some l::h):=
 ⟨by simp[H.len],by rw[jA,h1,H.nr];rfl,fun j hj=>by
   cases j with
   |zero=>left;rw[uf,h2];rfl
   |succ j=>
    have:=H.lv j (by omega)
    rw[pn,pw]
    simpa using this⟩
noncomputable def rM (gl:Nat→C)(M:Nat)(pu:Nat→List C→Option C):Cx:= { aD gl M pu with top:=false }
section
variable {gl:Nat→C} {M:Nat} {pu:Nat→List C→Option C}
theorem P2: (rM gl M pu).P=Tryd.prog:=rfl
theorem P3: (rM gl M pu).N=M:=rfl
theorem KX (d:Option Nat):jI (rM gl M pu) d=false:=by cases d<;>rfl
theorem vo: (rM gl M pu).P.follows .mixedOrders=true:=eG (gl:=gl) (M:=M) (pu:=pu)
end
attribute [go_sem] P2 P3 KX
end Go.Sx
namespace Go.Sx
open Go.RowKit Go.Proofs
set_option maxRecDepth 100000
set_option maxHeartbeats 8000000
theorem Lk (u:TypeDesc)(y:Nat):gN (some ⟨u,3,y,[nI 0,nI 0,nI 0]⟩) 0 [] =some (vp (sl iD .full [])):=rfl
theorem CC {p:Prop}(e:p:=by intro KZ hZ;simp -implicitDefEqProofs (disch:=first|omega| (simp only[go_sem,lA,lD,lT] <;>omega) |decide) only[go_sem,↓reduceIte,Nat.reduceEqDiff,reduceCtorEq,Nat.reduceLT,Nat.reduceBEq,Nat.reduceAdd,hy];with_reducible exact hZ):p:=e
theorem Qs {p:Prop}(e:p:=by simp -implicitDefEqProofs (disch:=first|omega| (simp only[go_sem,lA,lD,lT] <;>omega) |decide) only[go_sem,↓reduceIte,Nat.reduceEqDiff,reduceCtorEq]):p:=e
theorem Vs {gl:Nat→C}{M:Nat}{pu:Nat→List C→Option C}(hcx:CxOK (aD gl M pu))(w:ah):FC Tryd.prog gl 53 [.agg [sl vC .no w]] [] (.fn 93 [.kp [sl vC .no w]]) []:=by
 replace hcx:=hcx.reN (M:=4)
 refine bI (cx:=aD gl 4 pu) (rs:=[.tmp 2]) rfl Tryd.func53 rfl rfl rfl (by simp only[List.length_cons,List.length_nil];decide) (by simp only[go_sem]) ?_
 simp only[cZ,go_sem]
 have hy:=True.intro
 refine Tr.w hcx [] _ [none] rfl rfl rfl ?_ CC
 refine Tr.w hcx [1000003] _ [] rfl rfl rfl ?_ CC
 refine ab hcx 0 [sl vC .no w] ?_
 exact Tr.ret Qs
end Go.Sx
namespace Go.Sx
open Go.RowKit Go.Proofs
set_option maxRecDepth 100000
set_option maxHeartbeats 8000000
theorem Qy (u:TypeDesc)(y:Nat)(x:aI):gN (some ⟨u,7,y,[nI 0,nI 0,nI 0,nI 0,nI 0,str [],.slice none 0 0]⟩) 1 [(0,.agg (pC x))] =some (vp (sl pC .full [x])):=rfl
theorem Qz (u:TypeDesc)(y:Nat)(x:ID):gN (some ⟨u,3,y,[nI 0,nI 0,nI 0]⟩) 1 [(0,.agg (iD x))] =some (vp (sl iD .full [x])):=rfl
theorem RoundQ.c {k:Nat}{I1:Hp→Prop}{Q:Ex→Hp→Prop}{s:St}(h:I1 (s.h.take k))(hb:∀ (b:Nat) cells,b< k→s.h[b]? =some (some cells)→noRefs k cells=true:=by
 first
 | (rintro (_|b) cells hb hq
    . (cases hq;first| (simp only[aq,ay,ax,aF,aH,au,Bool.and_self];done) | (simp only[go_sem];done))
    . omega)
 | (rintro (_|_|b) cells hb hq
    . (cases hq;first| (simp only[aq,ay,ax,aF,aH,au,Bool.and_self];done) | (simp only[go_sem];done))
    . (cases hq;first| (simp only[aq,ay,ax,aF,aH,au,Bool.and_self];done) | (simp only[go_sem];done))
    . omega)):RoundQ k I1 Q .normal s:= .inl ⟨h,hb⟩
attribute [go_sem] Qy Qz Lk sL
def aZ (w:ah):List aI:=(aS w).map (·.2)
theorem eV (w:ah): (aZ w).length= (aS w).length:=by simp[aZ]
theorem jW (w:ah)(i:Nat)(h:i< (aS w).length):gt (aZ w) i= (gt (aS w) i).2:=by simp[aZ,gt,List.getD,List.getElem?_eq_getElem h]
theorem fq {α:Type}[Inhabited α](l:List α)(i:Nat)(h:i< l.length):l.take i++[gt l i] =l.take (i+1):=by
 rw[List.take_add_one,List.getElem?_eq_getElem h];simp[gt,List.getD,List.getElem?_eq_getElem h]
def WS (w:ah):Prop:=WB w∧(aS w).length≤100000∧∀i,i< (aS w).length→(gt (aS w) i).2.2.2.2.2.length≤1000000
end Go.Sx
namespace Go.Sx
open Go.RowKit Go.Proofs
set_option maxRecDepth 100000
set_option maxHeartbeats 8000000
theorem Rn {gl:Nat→C}{M:Nat}{pu:Nat→List C→Option C}{n:Nat}{Q:Ex→St→Prop}{g f m:Nat}{ps:List Nat}{assign body:Code}{e:List (Nat×C)}{h:Hp}{caps:List C}(N:Nat)(xs:Nat→List C)(H:Nat→Hp)(F:Nat→Prop)(hg:A e g= .fn f caps)(hI:ItrB Tryd.prog gl f caps N xs RowN∧∀i,RowN m (H i))
 (hx:∀i,i< N→(xs i).length=ps.length) (hp:∀p∈ps,p< M) (h0:h=H 0) (hF:F 0)
 (hb:∀i,i< N→F i→Tr (rM gl M pu) (H i).length assign ⟨A (g9 ps (xs i) (oP e)),H i⟩ fun x s=>x= .normal∧Tr (rM gl M pu) (H i).length body s (RoundQ (H i).length (fun k=>k=H (i+1)∧F (i+1)) fun x h'=>Q x ⟨A e,h'⟩))
 (hd:F N→Q .normal ⟨A e,H N⟩):Tr (aD gl M pu) n (.rangeFunc (.tmp g) ps.toArray assign body) ⟨A e,h⟩ Q:=
 uN (cx:=aD gl M pu) rfl (fun i k=>k=H i∧F i) hg (hI.1 m _ fun i k hk=>by rw[hk.1];exact hI.2 i) hx hp ⟨h0,hF⟩ (fun i k hi hk=>by obtain ⟨rfl,hk⟩:=hk;rw[qt,mC];exact hb i hi hk) (fun k hk=>by obtain ⟨rfl,hk⟩:=hk;exact hd hk)
theorem qR (op:BinOp)(a b:ID):aR Tryd.prog op 34 (.agg (iD a)) (.agg (iD b)) =uq op (decide (a=b)):=by
 have hg:Tryd.prog.eqGuardType Tryd.prog.depth 34=false:=by kernel_rfl
 have hs:Tryd.prog.stoodInHeld 34=false:=by kernel_rfl
 have hi:∀x y:Int,ik Tryd.prog 8 3 (.val (.int .i64 x)) (.val (.int .i64 y)) =some (decide (x=y)):=fun x y=>wQ Tryd.prog 7 iF x y
 have he:ik Tryd.prog 9 34 (.agg (iD a)) (.agg (iD b)) =some (decide (a=b)):=by
  obtain ⟨a1,a2,a3⟩:=a
  obtain ⟨b1,b2,b3⟩:=b
  unfold ik
  rw[mP]
  simp only[hs,C.agg?,iD,ph,iF]
  have g:∀ (xs:List C)(o:Nat),dU ⟨.int .i64,1,8,[.int .i64 0]⟩ xs o=dJ xs o:=fun _ _=>rfl
  have r0:∀a b c:Value,dJ [.val a,.val b,.val c] 0=some (.val a):=fun _ _ _=>rfl
  have r1:∀a b c:Value,dJ [.val a,.val b,.val c] 1=some (.val b):=fun _ _ _=>rfl
  have r2:∀a b c:Value,dJ [.val a,.val b,.val c] 2=some (.val c):=fun _ _ _=>rfl
  rw[if_neg (by decide)]
  simp only[g,r0,r1,r2,hi,ne_eq,String.reduceEq,not_false_eq_true,if_true]
  by_cases e1:a1=b1<;>by_cases e2:a2=b2<;>by_cases e3:a3=b3<;>simp[e1,e2,e3]
 show il Tryd.prog op 34 _ _=_
 unfold il
 rw[if_pos ⟨.inl ⟨rfl,rfl⟩,hg⟩]
 unfold uq
 cases op<;>simp[he,vp,Plan.pure]
def dI (w:ah)(id:ID): (Nat×Nat×Nat)×Bool:=match (aS w).find? (fun r=>decide (r.2.1=id)) with
 |some r=>(r.1,true)
 |none=>((0,0,0),false)
theorem H7 {w:ah}{id:ID}{i:Nat}(hi:i< (aS w).length)(hn:∀j,j< i→¬ (gt (aS w) j).2.1=id)(h: (gt (aS w) i).2.1=id):dI w id= ((gt (aS w) i).1,true):=by
 have e:∀j (hj:j< (aS w).length),gt (aS w) j= (aS w)[j]:=fun j hj=>by simp[gt,List.getD,List.getElem?_eq_getElem hj]
 have: (aS w).find? (fun r=>decide (r.2.1=id)) =some (gt (aS w) i):=by
  rw[List.find?_eq_some_iff_getElem]
  refine ⟨by simpa using h,i,hi,(e i hi).symm,fun j hj=>?_⟩
  have:=hn j hj
  rw[e j (by omega)] at this
  simpa using this
 unfold dI;rw[this]
theorem H8 {w:ah}{id:ID}(hn:∀j,j< (aS w).length→¬ (gt (aS w) j).2.1=id):dI w id= ((0,0,0),false):=by
 have: (aS w).find? (fun r=>decide (r.2.1=id)) =none:=by
  rw[List.find?_eq_none]
  intro r hr
  obtain ⟨j,hj,rfl⟩:=List.getElem_of_mem hr
  have:=hn j hj
  rw[show gt (aS w) j= (aS w)[j] by simp[gt,List.getD,List.getElem?_eq_getElem hj]] at this
  simpa using this
 unfold dI;rw[this]
theorem jX {p:Prop}(e:p:=by intro KZ hZ;simp -implicitDefEqProofs (disch:=first|omega| (simp only[go_sem,lA,lD,lT] <;>omega) |decide) only[go_sem,↓reduceIte,Nat.reduceEqDiff,reduceCtorEq,Nat.reduceLT,Nat.reduceBEq,Nat.reduceAdd,h53,qR,c1,hy];with_reducible exact hZ):p:=e
theorem CW {p:Prop}(e:p:=by simp -implicitDefEqProofs (disch:=first|omega| (simp only[go_sem,lA,lD,lT] <;>omega) |decide) only[go_sem,↓reduceIte,Nat.reduceEqDiff,reduceCtorEq];all_goals (first| (rw[hR];done) | (rw[hR];rfl))):p:=e
theorem WO {gl:Nat→C}{M:Nat}{pu:Nat→List C→Option C}(hcx:CxOK (aD gl M pu))(h53:∀w:ah,pu 53 [.agg [sl vC .no w]] =some (.fn 93 [.kp [sl vC .no w]]))(w:ah)(id:ID)(hw:WB w):FC Tryd.prog gl 32 [.agg [sl vC .no w],.agg (iD id)] [] (.tup [.agg [.val (nI (dI w id).1.1),.val (nI (dI w id).1.2.1),.val (nI (dI w id).1.2.2)],.val (.bool (dI w id).2)]) []:=by
 replace hcx:=hcx.reN (M:=18)
 refine bI (cx:=aD gl 18 pu) (rs:=[.cell 4 60,.cell 5 4]) rfl Tryd.func32 rfl rfl rfl (by simp only[List.length_cons,List.length_nil];decide) (by simp only[go_sem]) ?_
 simp only[cZ,go_sem]
 have c1:=True.intro
 have hy:=True.intro
 refine Tr.w hcx [] _ [none,none,none,none] rfl rfl rfl ?_ jX
 refine ae fun K1 hK1=>?_
 refine Tr.w hcx [] _ [] rfl rfl rfl ?_ jX
 refine am ?_
 refine ab hcx 1 (iD id) ?_
 refine Tr.k [3,4,5,9] ?_
 refine bD hcx [2,3] ?_
 refine Rn ((aS w).length) (sL w) (fun i=>[some [.val (nI 0),.val (nI 0),.val (nI 0)],some [.val (.bool false)]]) (fun i=> ∀j,j< i→¬ (gt (aS w) j).2.1=id) rfl (⟨vn hcx w hw,fun i=>(RowN.nil.c rfl rfl).c rfl rfl⟩) (fun i hi=>rfl) (by decide) (rfl) (fun j hj=>by omega) ?rb_1 ?rd_1
 case rb_1=>
  intro i hi hF
  replace hcx:=hcx.rnd
  have eG:= @vo
  simp only[go_sem]
  refine Tr.w hcx [] _ [none] rfl rfl rfl ?_ jX
  refine Tr.v hcx [] _ [none] rfl rfl rfl ?_ jX
  refine ⟨rfl,?_⟩
  refine Tr.k [3,4,5,6,7] ?_
  refine am ?_
  by_cases c1: (gt (aS w) i).2.1=id
  ·
   have hR:=H7 hi hF c1
   refine Tr.w hcx [] _ [] rfl rfl rfl ?_ jX
   refine bn rfl ?_
   refine Tr.w hcx [] _ [] rfl rfl rfl ?_ jX
   exact Tr.ret (RoundQ.r CW)
  skip
  refine Tr.w hcx [] _ [] rfl rfl rfl ?_ jX
  refine aO rfl ?_
  refine Tr.skip ?_
  exact RoundQ.c (⟨rfl,fun j hj=>(Nat.lt_succ_iff_lt_or_eq.1 hj).elim (hF j) (fun e=>by subst e;simpa using c1)⟩)
 case rd_1=>
  intro hF
  have hR:=H8 hF
  refine hK1 _ ?_
  refine Tr.w hcx [] _ [] rfl rfl rfl ?_ jX
  exact Tr.ret CW
end Go.Sx
namespace Go.Sx
open Go.RowKit Go.Proofs
set_option maxRecDepth 100000
set_option maxHeartbeats 8000000
end Go.Sx
namespace Go.Sx
open Go.RowKit Go.Proofs
def qS (x:Int):Prop:= -9223372036854775808≤x∧x≤9223372036854775807
instance (x:Int):Decidable (qS x):=by unfold qS;exact inferInstance
def c9 (x:ID):Prop:=qS x.1∧qS x.2.1∧qS x.2.2
instance (x:ID):Decidable (c9 x):=by unfold c9;exact inferInstance
def oX (t:TypeId)(u:Value):Bool:=t==34 && (match u with
 | .agg vs=>(match vs.toList with
   | [.int .i64 a,.int .i64 b,.int .i64 c] =>decide (c9 (a,b,c))
   |_=>false)
 |_=>false)
def j8 (x:ID):Value:= .agg #[.int .i64 x.1,.int .i64 x.2.1,.int .i64 x.2.2]
theorem l5 {x:ID}(h:c9 x):oX 34 (j8 x) =true:=by
 obtain ⟨a,b,c⟩:=x
 show (true && decide (c9 (a,b,c))) =true
 rw[Bool.true_and];exact decide_eq_true h
theorem Lt:laidOutB Tryd.prog=true:=by kernel_rfl
theorem CX: (34:TypeId) < Tryd.prog.types.size:=of_decide_eq_true (by kernel_rfl)
theorem CY:Tryd.prog.underlying 34=some (.struct #[Field.mk "By" 3 0 false "" "" 0,Field.mk "Seq" 3 1 false "" "" 8,Field.mk "K" 3 2 false "" "" 16]) :=by kernel_rfl
theorem TC:Tryd.prog.underlying 3=some (.int .i64):=by kernel_rfl
theorem Ro:Tryd.prog.cellsOf 34=3:=by kernel_rfl
theorem TE:Tryd.prog.cellsOf 3=1:=by kernel_rfl
theorem Rp:Tryd.prog.keyType 34=true:=by kernel_rfl
theorem Lu:Tryd.prog.keyTypeAt 2 34=true:=by kernel_rfl
theorem Rq:WideMaps.KeyLaw Tryd.prog 34:=deep_law_laid Lt (m:=2) (Nat.le_of_ble_eq_true rfl) CX Lu (by rw[CY])
theorem Lv {P:Program} (hsz:34< P.types.size) (u34:P.underlying 34=some (.struct #[Field.mk "By" 3 0 false "" "" 0,Field.mk "Seq" 3 1 false "" "" 8,Field.mk "K" 3 2 false "" "" 16])) (u3:P.underlying 3=some (.int .i64)) (c34:P.cellsOf 34=3) (c3:P.cellsOf 3=1) (k34:P.keyType 34=true)
 (a b c:Int) (h:c9 (a,b,c)):∃l,Go.keyOf P 34 (.agg #[.int .i64 a,.int .i64 b,.int .i64 c]) =some l:=by
 obtain ⟨n,hn⟩:∃n,P.types.size+1=n+2:=⟨P.types.size - 1,by omega⟩
 have hmin:IntKind.i64.min= -9223372036854775808:=by decide
 have hmax:IntKind.i64.max=9223372036854775807:=by decide
 have hw:∀x:Int,qS x→(Lit.int .i64 x).wf=true:=fun x hx=>by
  unfold qS at hx
  simp only[Lit.wf,hmin,hmax,Bool.and_eq_true,decide_eq_true_eq];omega
 have hk:P.keyLits (n+2) 34 [.int .i64 a,.int .i64 b,.int .i64 c] =some [.int .i64 a,.int .i64 b,.int .i64 c]:=by
  simp[Program.keyLits,u34,u3,c34,c3,hw a h.1,hw b h.2.1,hw c h.2.2]
 refine ⟨Lit.string (keyBytes [.int .i64 a,.int .i64 b,.int .i64 c]),?_⟩
 unfold Go.keyOf
 rw[u34]
 have hf: (Value.agg #[.int .i64 a,.int .i64 b,.int .i64 c]).formed P 34=true:=by simp[Value.formed,u34,c34]
 simp only[k34,hf,Bool.and_self,if_true,hn]
 have hc: (Value.agg #[.int .i64 a,.int .i64 b,.int .i64 c]).cells.toList= [.int .i64 a,.int .i64 b,.int .i64 c]:=rfl
 rw[hc,hk];rfl
theorem Rr (k:TypeId)(u:Value)(h:oX k u=true):Go.Maps.Keyed Tryd.prog k∧∃l,Go.keyOf Tryd.prog k u=some l:=by
 unfold oX at h
 simp only[Bool.and_eq_true,beq_iff_eq] at h
 obtain ⟨rfl,h⟩:=h
 refine ⟨Go.Maps.Keyed.of_law Rq,?_⟩
 split at h
 . rename_i vs
   split at h
   . rename_i a b c hl
     have hv:vs= #[.int .i64 a,.int .i64 b,.int .i64 c]:=by apply Array.ext';rw[hl]
     subst hv
     exact Lv CX CY TC Ro TE Rp a b c (of_decide_eq_true h)
   . cases h
 . cases h
def d9:List ID→List C
 | [] =>[]
 |x::M=> .val (j8 x):: .val (.bool true)::d9 M
theorem vZ:∀ (M N:List ID),d9 (M++N) =d9 M++d9 N
 | [],_=>rfl
 |x::M,N=>by simp only[List.cons_append,d9,vZ M N]
theorem sa (k:Nat):∀M,noRefs k (d9 M) =true
 | [] =>rfl
 |x::M=>by simp only[d9,noRefs,af,sa k M,Bool.and_self]
theorem sb (x y:ID):vq (j8 x) (j8 y) =some (decide (x=y)):=by
 obtain ⟨a,b,c⟩:=x
 obtain ⟨a',b',c'⟩:=y
 show wu [.int .i64 a,.int .i64 b,.int .i64 c] [.int .i64 a',.int .i64 b',.int .i64 c'] =_
 have k:∀x y:Int,(x==y) =decide (x=y):=fun x y=>by by_cases h:x=y<;>simp[h]
 by_cases h1:a=a'<;>by_cases h2:b=b'<;>by_cases h3:c=c'<;>simp[wu,wt,k,h1,h2,h3]
def OkI (M:List ID):Prop:=M.Nodup∧∀x∈M,c9 x
theorem OkI.tail {y:ID}{M:List ID}(h:OkI (y::M)):OkI M:=⟨(List.nodup_cons.1 h.1).2,fun x hx=>h.2 x (List.mem_cons_of_mem _ hx)⟩
theorem ix {cx:Cx}(hk:cx.km=oX)(x:ID):∀ (M:List ID)(i:Nat),OkI M→x∉M→fF cx 34 (j8 x) (d9 M) i=some none
 | [],_,_,_=>rfl
 |y::M,i,hM,h=>by
  simp only[List.mem_cons,not_or] at h
  simp only[d9,fF,hk,l5 (hM.2 y (List.mem_cons_self ..)),if_true,sb,decide_eq_false h.1]
  exact ix hk x M (i+1) hM.tail h.2
theorem jC {cx:Cx}(hk:cx.km=oX)(x:ID):∀ (M:List ID)(i:Nat),x∈M→OkI M→∃j,fF cx 34 (j8 x) (d9 M) i=some (some (i+j,.val (.bool true)))∧M[j]? =some x
 | [],_,h,_=>by simp at h
 |y::M,i,h,nd=>by
  obtain ⟨n1,n2⟩:=List.nodup_cons.1 nd.1
  have hy:=l5 (nd.2 y (List.mem_cons_self ..))
  by_cases e:x=y
  . subst e
    simp only[d9,fF,hk,hy,if_true,sb,decide_true,ix hk x M (i+1) nd.tail n1]
    exact ⟨0,rfl,rfl⟩
  . simp only[d9,fF,hk,hy,if_true,sb,decide_eq_false e]
    obtain ⟨j,h1,h2⟩:=jC hk x M (i+1) (by simpa[e] using h) nd.tail
    refine ⟨j+1,?_,by simpa using h2⟩
    rw[h1,show i+1+j=i+(j+1) from by omega]
end Go.Sx
namespace Go.Sx
open Go.RowKit Go.Proofs
theorem zL:ka Tryd.prog 92=some (34,4):=by kernel_rfl
def lq (M:List ID)(x:ID):List ID:=if x∈M then M else M++[x]
theorem pO:∀ (M:List ID)(j:Nat)(x:ID),M[j]? =some x→(d9 M).set (2*j+1) (.val (.bool true)) =d9 M∧(d9 M).take (2*j)++(d9 M).drop (2*j+2) =d9 (M.eraseIdx j)
 | [],j,x,h=>by simp at h
 |y::M,0,x,h=>by simp[d9]
 |y::M,j+1,x,h=>by
  obtain ⟨h1,h2⟩:=pO M j x (by simpa using h)
  rw[show 2*(j+1)+1=2*j+1+1+1 from by omega,show 2*(j+1) =2*j+1+1 from by omega,show 2*j+1+1+2=2*j+2+1+1 from by omega]
  simp only[d9,List.set_cons_succ,List.take_succ_cons,List.drop_succ_cons,List.cons_append,List.eraseIdx_cons_succ,h1,h2,and_self]
theorem Xo:Aa Tryd.prog 4=some (.val (.bool false)):=by kernel_rfl
theorem sN:∀ {M:List ID},M.Nodup→∀ {j:Nat}{x:ID},M[j]? =some x→M.eraseIdx j=M.erase x
 | [],_,j,x,h=>by simp at h
 |y::M,nd,0,x,h=>by
  simp at h;subst h
  rw[List.erase_cons_head,List.eraseIdx_cons_zero]
 |y::M,nd,j+1,x,h=>by
  have h:M[j]? =some x:=by simpa using h
  obtain ⟨n1,n2⟩:=List.nodup_cons.1 nd
  have hx:x∈M:=List.mem_of_getElem? h
  have hne:y≠x:=fun e=>n1 (e▸hx)
  rw[List.eraseIdx_cons_succ,List.erase_cons_tail (by simpa using hne),sN n2 h]
section
variable {cx:Cx} (hP:cx.P=Tryd.prog) (hk:cx.km=oX) {b:Nat} {h:Hp} {M:List ID} (hm:h.mp b=some (d9 M)) (hM:OkI M) {x:ID} (hx:c9 x)
include hP hk hm hM hx
theorem H9:nG cx 92 b (j8 x) (.val (.bool true)) h=some (.val undef,h.set b (some (ef (d9 (lq M x))))):=by
 unfold nG
 rw[hP,zL]
 simp only[hk,l5 hx,if_true,hm,Option.bind_some]
 by_cases e:x∈M
 . obtain ⟨j,h1,h2⟩:=jC hk x M 0 e hM
   rw[h1,Option.map_some]
   unfold sU lq
   simp only[Nat.zero_add,(pO M j x h2).1,if_pos e]
 . rw[ix hk x M 0 hM e,Option.map_some]
   unfold sU lq
   simp only[if_neg e,vZ]
   rfl
theorem TF:nH cx 92 b (j8 x) h=some (.val (.tuple #[]),h.set b (some (ef (d9 (M.erase x))))):=by
 unfold nH
 rw[hP,zL]
 simp only[hk,l5 hx,if_true,hm,Option.bind_some]
 by_cases e:x∈M
 . obtain ⟨j,h1,h2⟩:=jC hk x M 0 e hM
   rw[h1,Option.map_some]
   unfold sV
   simp only[Nat.zero_add,(pO M j x h2).2,sN hM.1 h2]
 . rw[ix hk x M 0 hM e,Option.map_some]
   unfold sV
   simp only[List.erase_of_not_mem e]
theorem CZ:lz cx 92 b (j8 x) false h=some (.val (.bool (decide (x∈M))),h):=by
 unfold lz
 rw[hP,zL]
 simp only[hk,l5 hx,if_true,hm,Option.bind_some]
 by_cases e:x∈M
 . obtain ⟨j,h1,h2⟩:=jC hk x M 0 e hM
   rw[h1,Option.bind_some]
   unfold qg
   rw[decide_eq_true e];rfl
 . rw[ix hk x M 0 hM e,Option.bind_some]
   unfold qg
   rw[decide_eq_false e]
   simp only[hP,Xo,Option.map_some];rfl
end
theorem OkI.nil:OkI []:=⟨List.nodup_nil,fun x h=>by cases h⟩
theorem OkI.ins {M:List ID}(hM:OkI M){x:ID}(hx:c9 x):OkI (lq M x):=by
 unfold lq
 split
 . exact hM
 . rename_i e
   refine ⟨List.nodup_append.2 ⟨hM.1,by simp,fun a ha b hb=>?_⟩,fun y hy=>?_⟩
   . simp at hb;subst hb;exact fun q=>e (q▸ha)
   . rcases List.mem_append.1 hy with hy|hy
     . exact hM.2 y hy
     . simp at hy;subst hy;exact hx
theorem OkI.del {M:List ID}(hM:OkI M)(x:ID):OkI (M.erase x):=⟨hM.1.erase x,fun y hy=>hM.2 y (List.mem_of_mem_erase hy)⟩
end Go.Sx
namespace Go.Sx
open Go.RowKit Go.Proofs
set_option maxRecDepth 100000
set_option maxHeartbeats 8000000
noncomputable def kZ (gl:Nat→C)(M:Nat)(pu:Nat→List C→Option C):Cx:=⟨Tryd.prog,M,gl,pu,fun _ _ _=>none,fun _=>false,oX,true⟩
noncomputable def j5 (gl:Nat→C)(M:Nat)(pu:Nat→List C→Option C):Cx:=⟨Tryd.prog,M,gl,pu,fun _ _ _=>none,fun _=>false,oX,false⟩
theorem qC {gl:Nat→C}{M:Nat}{pu:Nat→List C→Option C}(hcx:CxOK (aD gl M pu)):CxOK (kZ gl M pu):=⟨hcx.glo,hcx.pu,(fun _ _ _ _ _ h=>by cases h),Rr⟩
section
variable {gl:Nat→C} {M:Nat} {pu:Nat→List C→Option C}
theorem Sl: (kZ gl M pu).P=Tryd.prog:=rfl
theorem Sm: (kZ gl M pu).N=M:=rfl
theorem OL: (kZ gl M pu).pu=pu:=rfl
theorem OM (d:Option Nat):jI (kZ gl M pu) d=false:=by cases d<;>rfl
theorem ON: (j5 gl M pu).P=Tryd.prog:=rfl
theorem OO: (j5 gl M pu).N=M:=rfl
theorem Kj: (j5 gl M pu).pu=pu:=rfl
theorem Kk (d:Option Nat):jI (j5 gl M pu) d=false:=by cases d<;>rfl
theorem OP {n:Nat}{Q:Ex→St→Prop}{g f m:Nat}{ps:List Nat}{assign body:Code}{e:List (Nat×C)}{h:Hp}{caps:List C}(N:Nat)(xs:Nat→List C)(H:Nat→Hp)(R:Nat→Hp→Prop)(hg:A e g= .fn f caps)(hI:ItrB Tryd.prog gl f caps N xs R∧∀i,R m (H i))
 (hx:∀i,i< N→(xs i).length=ps.length) (hp:∀p∈ps,p< M) (h0:h=H 0)
 (hb:∀i,i< N→Tr (j5 gl M pu) (H i).length assign ⟨A (g9 ps (xs i) (oP e)),H i⟩ fun x s=>x= .normal∧Tr (j5 gl M pu) (H i).length body s (RoundQ (H i).length (fun k=>k=H (i+1)) fun x h'=>Q x ⟨A e,h'⟩))
 (hd:Q .normal ⟨A e,H N⟩):Tr (kZ gl M pu) n (.rangeFunc (.tmp g) ps.toArray assign body) ⟨A e,h⟩ Q:=
 NQ (cx:=kZ gl M pu) rfl N xs H hg hI.1 m hI.2 hx hp h0 hb hd
end
attribute [go_sem] Sl Sm OL OM ON OO Kj Kk
theorem UJ:td Tryd.prog 92=some ⟨.map 34 4,1,8,[.map none]⟩:=by kernel_rfl
theorem Sn:fK Tryd.prog 92=some (.mo qh):=JZ zL
theorem OQ (cx:Cx)(b:Nat)(x:ID)(v:C):fL cx 92 (.mp b) (.agg (iD x)) v=some (.mo (nG cx 92 b (j8 x) v)):=J0 cx 92 b _ v _ rfl
theorem Kl (cx:Cx)(b:Nat)(x:ID)(ok:Bool):fl cx 92 (.mp b) (.agg (iD x)) ok=some (.mo (lz cx 92 b (j8 x) ok)):=Fa cx 92 b _ _ ok rfl
theorem OR (cx:Cx)(b:Nat)(x:ID):fM cx 92 (.mp b) (.agg (iD x)) =some (.mo (nH cx 92 b (j8 x))):=J1 cx 92 b _ _ rfl
theorem BO {P:Program}(t:TypeId)(b o m:Nat)(k:Option Nat):da P t (.bp b o) (.mp m) k=kT (td P t) b o (some [.mp m]):=by
 unfold da kT;cases td P t<;>rfl
theorem So: (Value.map none).oneCell'=true:=rfl
attribute [go_sem] UJ Sn OQ Kl OR So BO
theorem qD {gl:Nat→C}{M:Nat}{pu:Nat→List C→Option C}(hcx:CxOK (kZ gl M pu)):CxOK (aD gl M pu):=⟨hcx.glo,hcx.pu,(fun _ _ _ _ _ h=>by cases h),fun _ _ h=>by cases h⟩
theorem RowN.m {n:Nat}{h:Hp}{l:List C}(H:RowN n h)(h1:noRefs 0 (ef l) =true):RowN (n+1) (some (ef l)::h):=
 ⟨by simp[H.len],by rw[jA,h1,H.nr];rfl,fun j hj=>by
   cases j with
   |zero=>left;rw[uA];simp[fj,ef]
   |succ j=>
    have:=H.lv j (by omega)
    rw[pn,pw]
    simpa using this⟩
theorem BP (ok:Nat→Bool)(b:Nat)(ys:List C):fzCs ok b ys (ef []) =ef []:=by simp only[ef,fzCs,bg]
attribute [go_sem] Dj BP
theorem uT (k:Nat)(M:List ID):noRefs k (ef (d9 M)) =true:=by simp only[ef,noRefs,af,sa,Bool.and_self]
attribute [go_sem] uT
theorem Km (l:List ID)(i:Nat)(h:i< l.length):gt l i∈l:=by simp[gt,List.getD,List.getElem?_eq_getElem h]
theorem nV (M:List ID):noRefs 0 (ef (d9 M)) =true:=by simp only[ef,noRefs,af,sa,Bool.and_self]
def dW (M:List ID):List aI→List ID×List ID
 | [] =>(M,[])
 |p::l=>if p.1∈M then ((dW (M.erase p.1) l).1,p.1:: (dW (M.erase p.1) l).2) else dW M l
theorem pG:∀ (M:List ID)(l:List aI),(dW M l).2.length≤l.length
 |M,[] =>Nat.le_refl _
 |M,q::l=>by
  simp only[dW]
  split
  . have:=pG (M.erase q.1) l
    simp only[List.length_cons];omega
  . have:=pG M l
    simp only[List.length_cons];omega
def d4 (l:List ID):List ID:=l.foldl lq []
theorem xh (l:List ID)(i:Nat)(h:i< l.length):lq (d4 (l.take i)) (gt l i) =d4 (l.take (i+1)):=by
 rw[←fq l i h];unfold d4;rw[List.foldl_append];rfl
theorem pH:∀ (M:List ID)(l:List aI)(p:aI),dW M (l++[p]) =if p.1∈ (dW M l).1 then ((dW M l).1.erase p.1,(dW M l).2++[p.1]) else dW M l
 |M,[],p=>by by_cases h:p.1∈M<;>simp[dW,h]
 |M,q::l,p=>by
  simp only[List.cons_append,dW]
  split
  . rw[pH (M.erase q.1) l p]
    split<;>simp
  . exact pH M l p
theorem rD:∀ (M:List ID)(l:List aI),OkI M→OkI (dW M l).1
 |M,[],h=>h
 |M,q::l,h=>by
  simp only[dW]
  split
  . exact rD (M.erase q.1) l (h.del q.1)
  . exact rD M l h
theorem rE {l:List ID}(h:∀x∈l,c9 x):OkI (d4 l):=by
 have:∀ (l M:List ID),OkI M→(∀x∈l,c9 x)→OkI (l.foldl lq M):=fun l=>by
  induction l with
  |nil=>intro M hM _;exact hM
  |cons x l ih=>intro M hM hl;exact ih _ (hM.ins (hl x (List.mem_cons_self ..))) fun y hy=>hl y (List.mem_cons_of_mem _ hy)
 exact this l [] OkI.nil h
theorem fy {p:Prop}(e:p:=by intro KZ hZ;simp -implicitDefEqProofs (disch:=first|omega| (simp only[go_sem,lA,lD,lT,hT] <;>omega) |decide) only[go_sem,↓reduceIte,Nat.reduceEqDiff,reduceCtorEq,Nat.reduceLT,Nat.reduceBEq,Nat.reduceAdd,h53,ep,c1,hy];with_reducible exact hZ):p:=e
theorem OS {p:Prop}(e:p:=by simp -implicitDefEqProofs (disch:=first|omega| (simp only[go_sem,lA,lD,lT,hT] <;>omega) |decide) only[go_sem,↓reduceIte,Nat.reduceEqDiff,reduceCtorEq];all_goals (rfl)):p:=e
theorem UK {gl:Nat→C}{M:Nat}{pu:Nat→List C→Option C}(hcx:CxOK (kZ gl M pu))(h53:∀w:ah,pu 53 [.agg [sl vC .no w]] =some (.fn 93 [.kp [sl vC .no w]]))(w:ah)(l:List ID)(hw:WS w)(hl:∀x∈l,c9 x)(hl2:l.length≤1000000)(hid:∀i,i< (aS w).length→c9 (gt (aS w) i).2.1):FC Tryd.prog gl 28 [.agg [sl vC .no w],sl iD .no l] [] (sl iD .no (dW (d4 l) (aZ w)).2) []:=by
 replace hcx:=hcx.reN (M:=38)
 refine bI (cx:=kZ gl 38 pu) (rs:=[.tmp 4]) rfl Tryd.func28 rfl rfl rfl (by simp only[List.length_cons,List.length_nil];decide) (by simp only[go_sem]) ?_
 simp only[cZ,go_sem]
 have c1:=True.intro
 have hy:=True.intro
 have ep:=True.intro
 have hT:=True.intro
 have hmv:=fun (ρ:List Nat) (M:List ID) =>mvCs_nr ρ (ef (d9 M)) (nV M)
 refine Tr.w hcx [] _ [none] rfl rfl rfl ?_ fy
 refine Tr.w hcx [] _ [none] rfl rfl rfl ?_ fy
 refine ae fun K1 hK1=>?_
 refine ab hcx 0 [sl vC .no w] ?_
 refine ab hcx 1 [.mp 2] ?_
 refine Tr.k [1,2,5] ?_
 refine bD hcx [2] ?_
 refine Tr.w hcx [] _ [] rfl rfl rfl ?_ fy
 refine Tr.k [2,5,12,13,14] ?_
 refine am ?_
 refine ux hcx (α:=Nat) (fun a=>[(2,?v2_1),(5,?v5_1),(12,?v12_1),(13,?v13_1),(14,.val (nI a))]) (fun a=>[some (ef (d9 (d4 (l.take a))))]) (fun a=>a≤l.length) (fun a=>l.length - a) (0) (Nat.zero_le _) ?le_1 ?hh_1 ?bd_1
 case hh_1=>exact rfl
 case le_1=>exact LT
 rintro i hi
 refine Tr.w hcx [] _ [] rfl rfl rfl ?_ fy
 refine ae fun K2 hK2=>?_
 refine aw rfl (fun hc15=>?_) (fun hc15=>?_)
 ·
  have ex:c9 (gt l i):=hl _ (Km l i hc15)
  have hM:OkI (d4 (l.take i)):=rE fun x hx=>hl x (List.mem_of_mem_take hx)
  have ep:=H9 (cx:=⟨Tryd.prog,38,gl,pu,fun _ _ _=>none,fun _=>false,oX,true⟩) rfl rfl (h:=[some (ef (d9 (d4 (l.take i)))),some (iD (gt l i))]) (b:=0) rfl hM ex
  refine Tr.skip ?_
  refine hK2 _ ?_
  refine ae fun K3 hK3=>?_
  refine am ?_
  refine Tr.w hcx [] _ [none] rfl rfl rfl ?_ fy
  have hy:= @ep
  refine Tr.v hcx [] _ [] rfl rfl rfl ?_ fy
  refine hK3 _ ?_
  have hy:=True.intro
  refine Tr.v hcx [] _ [] rfl rfl rfl ?_ fy
  first
  |exact ⟨[0],⟨by decide,by decide,by decide⟩,i+1,⟨(by omega),O1⟩,LM,by simp only[dD,cB,cd,dA,dB,Option.map_some,Option.map_none,bE,dz,cA,cb,cR,cP,db,du,dv,dw,cS,dx,bX,bY,bZ,b8,b9,ca,cQ,cz,↓reduceIte,Nat.reduceEqDiff,reduceCtorEq,Nat.reduceAdd,Nat.zero_add,Nat.one_ne_zero,Nat.zero_ne_one,dy,dE,ce,cf,dF,cg,cj,hmv];rw[xh l _ hc15]⟩
 obtain rfl:i=l.length:=by omega
 rw[List.take_length]
 refine Tr.exit ?_
 refine hK1 _ ?_
 refine Tr.w hcx [] _ [none] rfl rfl rfl ?_ fy
 refine ae fun K4 hK4=>?_
 refine Tr.w hcx [] _ [] rfl rfl rfl ?_ fy
 refine am ?_
 refine Tr.k [5,8,22] ?_
 refine Tr.bxc 1 0 (sl iD (.own 3) []) _ rfl rfl (bH rfl) rfl ?_
 simp only[List.set_cons_succ,List.set_cons_zero]
 refine OP ((aS w).length) (sL w) (fun i=>[some (ef (d9 (dW (d4 l) ((aZ w).take i)).1)),some [sl iD (.own 3) (dW (d4 l) ((aZ w).take i)).2]]) (RowN) rfl (⟨vn (qD hcx) w hw.1,fun i=>(RowN.nil.c (by simp only[aq,ay,ax,Bool.and_self]) rfl).m (nV _)⟩) (fun i hi=>rfl) (by decide) (rfl) ?rb_2 ?rd_2
 case rb_2=>
  intro i hi
  replace hcx:=hcx.rnd
  have eG:= @vo
  simp only[go_sem]
  have eP:=jW w i hi
  have hM:OkI (dW (d4 l) ((aZ w).take i)).1:=rD _ _ (rE hl)
  have hT: (dW (d4 l) ((aZ w).take i)).2.length≤i:=Nat.le_trans (pG _ _) (by rw[List.length_take];omega)
  have hw2:=hw.2.1
  have ex:=hid i hi
  obtain ⟨P,hP⟩:∃P,(gt (aS w) i).2=P:=⟨_,rfl⟩
  rw[hP] at ex eP
  rw[hP]
  have hS:=pH (d4 l) ((aZ w).take i) P
  rw[show (aZ w).take i++[P] = (aZ w).take (i+1) from by rw[←eP];exact fq _ _ (by rw[eV];exact hi)] at hS
  obtain ⟨S,hSS⟩:∃S,dW (d4 l) ((aZ w).take i) =S:=⟨_,rfl⟩
  rw[hSS] at hM hS hT
  rw[hSS]
  have ep:=And.intro (fun r=>CZ (cx:=j5 gl 38 pu) rfl rfl (h:=some (ef (d9 S.1))::r) (b:=0) rfl hM ex) (fun r=>TF (cx:=j5 gl 38 pu) rfl rfl (h:=some (ef (d9 S.1))::r) (b:=0) rfl hM ex)
  refine Tr.v hcx [] _ [none] rfl rfl rfl ?_ fy
  refine ⟨rfl,?_⟩
  refine Tr.k [5,8,10] ?_
  refine am ?_
  by_cases c1:P.1∈S.1
  ·
   refine Tr.w hcx [] _ [] rfl rfl rfl ?_ fy
   refine bn rfl ?_
   refine Tr.w hcx [29] _ [] rfl rfl rfl ?_ fy
   refine Tr.v hcx [] _ [] rfl rfl rfl ?_ fy
   exact RoundQ.c (by simp only[hS,if_pos c1];rfl)
  refine Tr.w hcx [] _ [] rfl rfl rfl ?_ fy
  refine aO rfl ?_
  refine Tr.skip ?_
  exact RoundQ.c (by simp only[hS,if_neg c1];rfl)
 case rd_2=>
  refine hK4 _ ?_
  rw[List.take_of_length_le (show (aZ w).length≤(aS w).length by rw[eV];exact Nat.le_refl _)]
  refine Tr.w hcx [1000037] _ [] rfl rfl rfl ?_ fy
  refine Tr.live [(4,sl iD .no (dW (d4 l) (aZ w)).2)] (by simp only[bl,bQ,↓bF,↓reduceIte,Nat.reduceEqDiff,and_true];exact CLe.refl _) ?_
  exact Tr.ret OS
end Go.Sx
namespace Go.Sx
open Go.RowKit Go.Proofs
set_option maxRecDepth 100000
set_option maxHeartbeats 8000000
theorem Kn (u:TypeDesc)(y:Nat)(a b:ID):gN (some ⟨u,3,y,[nI 0,nI 0,nI 0]⟩) 2 [(0,.agg (iD a)),(1,.agg (iD b))] =some (vp (sl iD .full [a,b])):=rfl
theorem Ko (x y:ID):fG (iD x++iD y) 0 3=some (.agg (iD x)):=rfl
theorem G9 {l:List ID} (h:l.length=2) :um (some ⟨.struct #[Field.mk "By" 3 0 false "" "" 0,Field.mk "Seq" 3 1 false "" "" 8,Field.mk "K" 3 2 false "" "" 16],3,24,[nI 0,nI 0,nI 0]⟩) (some 0) 2 (cl iD l) =some (vp (.kp (iD (gt l 0)++iD (gt l 1)))) :=by
 rcases l with _| ⟨x,_| ⟨y,_| ⟨z,l⟩⟩⟩
 . cases h
 . cases h
 . rfl
 . simp at h
attribute [go_sem] Kn Ko
theorem BQ {p:Prop}(e:p:=by intro KZ hZ;simp -implicitDefEqProofs (disch:=first|omega| (simp only[go_sem,lA,lD,lT] <;>omega) |decide) only[go_sem,↓reduceIte,Nat.reduceEqDiff,reduceCtorEq,Nat.reduceLT,Nat.reduceBEq,Nat.reduceAdd,e28,qR,hO,c1,c2,hy];with_reducible exact hZ):p:=e
theorem uU {p:Prop}(e:p:=by intro KZ hZ;simp -implicitDefEqProofs (disch:=first|omega| (simp only[go_sem,lA,lD,lT] <;>omega) |decide) only[go_sem,↓reduceIte,Nat.reduceEqDiff,reduceCtorEq,Nat.reduceLT,Nat.reduceBEq,Nat.reduceAdd,e28,qR,hO,c1,c2,hy];with_reducible refine And.intro ?_ hZ;first|exact rfl|decide):p:=e
theorem uV {p:Prop}(e:p:=by simp -implicitDefEqProofs (disch:=first|omega| (simp only[go_sem,lA,lD,lT] <;>omega) |decide) only[go_sem,↓reduceIte,Nat.reduceEqDiff,reduceCtorEq];all_goals (simp[c1,c2])):p:=e
theorem UL {gl:Nat→C}{M:Nat}{pu:Nat→List C→Option C}(hcx:CxOK (aD gl M pu))(h28:∀ (w:ah) (l:List ID),WS w→(∀x∈l,c9 x)→l.length≤1000000→(∀i,i< (aS w).length→c9 (gt (aS w) i).2.1)→pu 28 [.agg [sl vC .no w],sl iD .no l] =some (sl iD .no (dW (d4 l) (aZ w)).2))(w:ah)(a b:ID)(hw:WS w)(ha:c9 a)(hb:c9 b)(hid:∀i,i< (aS w).length→c9 (gt (aS w) i).2.1):FC Tryd.prog gl 30 [.agg [sl vC .no w],.agg (iD a),.agg (iD b)] [] (.val (.bool (decide ((dW (d4 [a,b]) (aZ w)).2.length=2∧gt (dW (d4 [a,b]) (aZ w)).2 0=a)))) []:=by
 replace hcx:=hcx.reN (M:=23)
 refine bI (cx:=aD gl 23 pu) (rs:=[.tmp 6]) rfl Tryd.func30 rfl rfl rfl (by simp only[List.length_cons,List.length_nil];decide) (by simp only[go_sem]) ?_
 simp only[cZ,go_sem]
 have c1:=True.intro
 have c2:=True.intro
 have hy:=True.intro
 have e28:=h28 w [a,b] hw (by intro x hx;simp at hx;rcases hx with rfl|rfl<;>assumption) (by simp) hid
 obtain ⟨O,hO⟩:∃O,(dW (d4 [a,b]) (aZ w)).2=O:=⟨_,rfl⟩
 rw[hO]
 rw[hO] at e28
 refine Tr.w hcx [] _ [none,none,none] rfl rfl rfl ?_ BQ
 refine Tr.w hcx [1000012] _ [] rfl rfl rfl ?_ BQ
 by_cases c1:O.length=2
 ·
  by_cases c2:gt O 0=a
  ·
   have x20:=G9 c1
   have hy:= @x20
   refine fh hcx eG [1000022] [some 13,some 14,some 15,some 16,some 17,some 18,some 19,some 20,some 21,some 22,some 6] [] rfl rfl rfl rfl ?_ uU
   exact Tr.ret uV
  have x20:=G9 c1
  have hy:= @x20
  refine fh hcx eG [1000022] [some 13,some 14,some 15,some 16,some 17,some 18,some 19,some 20,some 21,some 22,some 6] [] rfl rfl rfl rfl ?_ uU
  exact Tr.ret uV
 have x20:=True.intro
 have c2:=True.intro
 have hy:= @x20
 refine fh hcx eG [1000022] [some 13,some 14,some 15,some 16,some 17,some 18,some 19,some 20,some 21,some 22,some 6] [] rfl rfl rfl rfl ?_ uU
 exact Tr.ret uV
end Go.Sx
namespace Go.Sx
open Go.RowKit Go.Proofs
set_option maxRecDepth 100000
set_option maxHeartbeats 8000000
theorem id_eq (a b:ID): (a=b) = (a.1=b.1∧a.2.1=b.2.1∧a.2.2=b.2.2):=by
 obtain ⟨a1,a2,a3⟩:=a;obtain ⟨b1,b2,b3⟩:=b
 simp
theorem Kp {a b:List ID}(h:a.length=b.length)(hn:∀j,j< a.length→gt a j=gt b j):a=b:=by
 refine List.ext_getElem h fun i h1 h2=>?_
 have:=hn i h1
 simpa[gt,List.getD,List.getElem?_eq_getElem h1,List.getElem?_eq_getElem h2] using this
theorem qE {p:Prop}(e:p:=by intro KZ hZ;simp -implicitDefEqProofs (disch:=first|omega| (simp only[go_sem,lA,lD,lT] <;>omega) |decide) only[go_sem,↓reduceIte,Nat.reduceEqDiff,reduceCtorEq,Nat.reduceLT,Nat.reduceBEq,Nat.reduceAdd,c1,c2,hy];with_reducible exact hZ):p:=e
theorem uW {p:Prop}(e:p:=by simp -implicitDefEqProofs (disch:=first|omega| (simp only[go_sem,lA,lD,lT] <;>omega) |decide) only[go_sem,↓reduceIte,Nat.reduceEqDiff,reduceCtorEq];all_goals (simp[id_eq,c1,c2])):p:=e
theorem UM {gl:Nat→C}{M:Nat}{pu:Nat→List C→Option C}(hcx:CxOK (aD gl M pu))(a b:ID):FC Tryd.prog gl 60 [.agg (iD a),.agg (iD b)] [] (.val (.bool (decide (a=b)))) []:=by
 replace hcx:=hcx.reN (M:=24)
 refine bI (cx:=aD gl 24 pu) (rs:=[.tmp 4]) rfl Tryd.func60 rfl rfl rfl (by simp only[List.length_cons,List.length_nil];decide) (by simp only[go_sem]) ?_
 simp only[cZ,go_sem]
 have c1:=True.intro
 have c2:=True.intro
 have hy:=True.intro
 refine Tr.w hcx [] _ [none,none] rfl rfl rfl ?_ qE
 by_cases c1:a.1=b.1
 ·
  by_cases c2:a.2.1=b.2.1
  ·
   skip
   refine Tr.w hcx [1000023] [some 5,some 6,some 7,some 8,some 9,some 10,some 11,some 12,some 13,some 14,some 15,some 16,some 17,some 18,some 19,some 20,some 21,some 22,some 23,some 4] [] rfl rfl rfl ?_ qE
   exact Tr.ret uW
  skip
  refine Tr.w hcx [1000023] [some 5,some 6,some 7,some 8,some 9,some 10,some 11,some 12,some 13,some 14,some 15,some 16,some 17,some 18,some 19,some 20,some 21,some 22,some 23,some 4] [] rfl rfl rfl ?_ qE
  exact Tr.ret uW
 have c2:=True.intro
 refine Tr.w hcx [1000023] [some 5,some 6,some 7,some 8,some 9,some 10,some 11,some 12,some 13,some 14,some 15,some 16,some 17,some 18,some 19,some 20,some 21,some 22,some 23,some 4] [] rfl rfl rfl ?_ qE
 exact Tr.ret uW
theorem i6 {p:Prop}(e:p:=by intro KZ hZ;simp -implicitDefEqProofs (disch:=first|omega| (simp only[go_sem,lA,lD,lT] <;>omega) |decide) only[go_sem,↓reduceIte,Nat.reduceEqDiff,reduceCtorEq,Nat.reduceLT,Nat.reduceBEq,Nat.reduceAdd,h60,c0,c1,hy];with_reducible exact hZ):p:=e
theorem BR {p:Prop}(e:p:=by intro KZ hZ;simp -implicitDefEqProofs (disch:=first|omega| (simp only[go_sem,lA,lD,lT] <;>omega) |decide) only[go_sem,↓reduceIte,Nat.reduceEqDiff,reduceCtorEq,Nat.reduceLT,Nat.reduceBEq,Nat.reduceAdd,h60,c0,c1,hy];with_reducible refine And.intro ?_ hZ;first|exact rfl|decide):p:=e
theorem uX {p:Prop}(e:p:=by simp -implicitDefEqProofs (disch:=first|omega| (simp only[go_sem,lA,lD,lT] <;>omega) |decide) only[go_sem,↓reduceIte,Nat.reduceEqDiff,reduceCtorEq];all_goals (simp[hR])):p:=e
theorem UN {gl:Nat→C}{M:Nat}{pu:Nat→List C→Option C}(hcx:CxOK (aD gl M pu))(h60:∀a b:ID,pu 60 [.agg (iD a),.agg (iD b)] =some (.val (.bool (decide (a=b)))))(l m:List ID)(ha:l.length≤1000000)(hb:m.length≤1000000):FC Tryd.prog gl 27 [sl iD .no l,sl iD .no m] [] (.val (.bool (decide (l=m)))) []:=by
 replace hcx:=hcx.reN (M:=27)
 refine bI (cx:=aD gl 27 pu) (rs:=[.tmp 4]) rfl Tryd.func27 rfl rfl rfl (by simp only[List.length_cons,List.length_nil];decide) (by simp only[go_sem]) ?_
 simp only[cZ,go_sem]
 have c0:=True.intro
 have c1:=True.intro
 have hy:=True.intro
 refine Tr.w hcx [] _ [] rfl rfl rfl ?_ i6
 refine ae fun K1 hK1=>?_
 by_cases c0: (l.length=m.length) =True
 ·
  have hlm:=of_eq_true c0
  refine Tr.w hcx [] _ [] rfl rfl rfl ?_ i6
  refine aO rfl ?_
  refine Tr.skip ?_
  refine hK1 _ ?_
  refine ae fun K2 hK2=>?_
  refine Tr.w hcx [] _ [] rfl rfl rfl ?_ i6
  refine Tr.k [0,1,5] ?_
  refine am ?_
  refine aV (α:=Nat) (fun a=>[(0,?v0_1),(1,?v1_1),(5,.val (nI a))]) (fun a=>[]) (fun a=>a≤l.length∧∀j,j< a→gt l j=gt m j) (fun a=>l.length - a) (0) ⟨Nat.zero_le _,fun j hj=>by omega⟩ ?le_1 ?hh_1 ?bd_1
  case hh_1=>exact rfl
  case le_1=>exact LT
  rintro i ⟨hi,hn⟩
  refine ae fun K3 hK3=>?_
  refine Tr.w hcx [] _ [] rfl rfl rfl ?_ i6
  refine aw rfl (fun hc14=>?_) (fun hc14=>?_)
  ·
   refine Tr.skip ?_
   refine hK3 _ ?_
   refine ae fun K4 hK4=>?_
   refine am ?_
   by_cases c1:gt l i=gt m i
   ·
    refine fh hcx eG [] _ [] rfl rfl rfl rfl ?_ BR
    refine aO rfl ?_
    refine Tr.skip ?_
    refine hK4 _ ?_
    refine Tr.v hcx [1000016] _ [] rfl rfl rfl ?_ i6
    exact ⟨i+1,⟨⟨by omega,fun j hj=>(Nat.lt_succ_iff_lt_or_eq.1 hj).elim (hn j) (fun e=>by subst e;exact c1)⟩,O1⟩,LT,rfl⟩
   refine fh hcx eG [] _ [] rfl rfl rfl rfl ?_ BR
   refine bn rfl ?_
   have hR:¬l=m:=fun h=>c1 (by rw[h])
   refine Tr.w hcx [] _ [] rfl rfl rfl ?_ i6
   exact Tr.ret uX
  obtain rfl:i=l.length:=by omega
  have hR:=Kp hlm hn
  refine Tr.exit ?_
  refine hK2 _ ?_
  refine Tr.w hcx [] _ [] rfl rfl rfl ?_ i6
  exact Tr.ret uX
 have c0: (l.length=m.length) =False:=eq_false (fun h=>c0 (eq_true h))
 refine Tr.w hcx [] _ [] rfl rfl rfl ?_ i6
 refine bn rfl ?_
 have hR:¬l=m:=fun h=>of_eq_false c0 (by rw[h])
 refine Tr.w hcx [] _ [] rfl rfl rfl ?_ i6
 exact Tr.ret uX
end Go.Sx
namespace Go.Sx
open Go.RowKit Go.Proofs
set_option maxRecDepth 100000
set_option maxHeartbeats 8000000
def pA (V:ct)(a:Nat):List aI:=(V.take a).flatMap (·.2)
def pV (w:ah)(v:Nat):List aI:=(w.take v).flatMap fun V=>pA V V.length
theorem lj (V:ct)(a:Nat)(h:a< V.length):pA V (a+1) =pA V a++(gt V a).2:=by
 unfold pA;rw[←fq V a h,List.flatMap_append];simp
theorem pI (w:ah)(v:Nat)(h:v< w.length):pV w (v+1) =pV w v++pA (gt w v) (gt w v).length:=by
 unfold pV;rw[←fq w v h,List.flatMap_append];simp
theorem Kq (v a:Nat)(l:List aI): (k7 v a l).map (·.2) =l:=by
 refine List.ext_getElem (by simp[k7]) fun i h1 h2=>?_
 simp[k7,gt,List.getD,List.getElem?_eq_getElem h2]
theorem xi (v:Nat)(V:ct):∀a,a≤V.length→((List.range a).flatMap fun a=>k7 v a (gt V a).2).map (·.2) =pA V a
 |0,_=>rfl
 |a+1,h=>by rw[List.range_succ,List.flatMap_append,List.map_append,xi v V a (by omega),lj V a (by omega)];simp[Kq]
theorem xj (w:ah):∀v,v≤w.length→((List.range v).flatMap fun v=>vc v (gt w v)).map (·.2) =pV w v
 |0,_=>rfl
 |v+1,h=>by
  rw[List.range_succ,List.flatMap_append,List.map_append,xj w v (by omega),pI w v (by omega)]
  have:=xi v (gt w v) (gt w v).length (Nat.le_refl _)
  simp only[List.flatMap_cons,List.flatMap_nil,List.append_nil]
  exact congrArg _ this
theorem lS (w:ah):aZ w=pV w w.length:=xj w _ (Nat.le_refl _)
theorem qF (w:ah)(v:Nat): (pV w v).length≤(aZ w).length:=by
 rw[lS]
 unfold pV
 rw[List.take_length]
 conv=>rhs;rw[←List.take_append_drop v w]
 rw[List.flatMap_append,List.length_append];omega
theorem Sp (V:ct)(a:Nat): (pA V a).length≤(pA V V.length).length:=by
 unfold pA
 rw[List.take_length]
 conv=>rhs;rw[←List.take_append_drop a V]
 rw[List.flatMap_append,List.length_append];omega
theorem nu (w:ah)(v a:Nat)(h:v< w.length): (pV w v).length+(pA (gt w v) a).length≤(aZ w).length:=by
 have h1:=qF w (v+1)
 rw[pI w v h,List.length_append] at h1
 have:=Sp (gt w v) a
 omega
theorem iu {p:Prop}(e:p:=by intro KZ hZ;simp -implicitDefEqProofs (disch:=first|omega| (simp only[go_sem,lA,lD,lT,hw1,hVl] <;>omega) |decide) only[go_sem,↓reduceIte,Nat.reduceEqDiff,reduceCtorEq,Nat.reduceLT,Nat.reduceBEq,Nat.reduceAdd,hVV,hy];with_reducible exact hZ):p:=e
theorem OT {p:Prop}(e:p:=by simp -implicitDefEqProofs (disch:=first|omega| (simp only[go_sem,lA,lD,lT,hw1,hVl] <;>omega) |decide) only[go_sem,↓reduceIte,Nat.reduceEqDiff,reduceCtorEq];all_goals (rfl)):p:=e
theorem UO {gl:Nat→C}{M:Nat}{pu:Nat→List C→Option C}(hcx:CxOK (aD gl M pu))(w:ah)(hw:WS w):FC Tryd.prog gl 14 [.agg [sl vC .no w]] [] (sl pC (.own 7) (aZ w)) []:=by
 replace hcx:=hcx.reN (M:=37)
 refine bI (cx:=aD gl 37 pu) (rs:=[.tmp 2]) rfl Tryd.func14 rfl rfl rfl (by simp only[List.length_cons,List.length_nil];decide) (by simp only[go_sem]) ?_
 simp only[cZ,go_sem]
 have hy:=True.intro
 have hw1:=hw.1.1
 have hal:=eV w
 have hw2:=hw.2.1
 have hVV:=True.intro
 have hVl:=True.intro
 refine Tr.w hcx [] _ [none] rfl rfl rfl ?_ iu
 refine Tr.w hcx [] _ [] rfl rfl rfl ?_ iu
 refine ae fun K1 hK1=>?_
 refine Tr.w hcx [] _ [] rfl rfl rfl ?_ iu
 refine Tr.k [1,3,4] ?_
 refine am ?_
 refine aV (α:=Nat) (fun a=>[(1,?v1_1),(3,sl pC (.own 7) (pV w a)),(4,.val (nI a))]) (fun a=>[some [sl vC .no w]]) (fun a=>a≤w.length) (fun a=>w.length - a) (0) (Nat.zero_le _) ?le_1 ?hh_1 ?bd_1
 case hh_1=>exact rfl
 case le_1=>exact LT
 rintro v hv
 have hp:=qF w v
 refine ae fun K2 hK2=>?_
 refine Tr.w hcx [] _ [] rfl rfl rfl ?_ iu
 refine aw rfl (fun hc10=>?_) (fun hc10=>?_)
 ·
  obtain ⟨V,hV⟩:∃V,gt w v=V:=⟨_,rfl⟩
  have hVV:=hV
  have hVl:=hw.1.2.1 v hc10
  have hAl:=hw.1.2.2 v
  rw[hV] at hVl hAl
  refine Tr.skip ?_
  refine hK2 _ ?_
  refine ae fun K3 hK3=>?_
  refine am ?_
  refine Tr.w hcx [] _ [] rfl rfl rfl ?_ iu
  refine Tr.k [1,3,4,5] ?_
  refine am ?_
  refine aV (α:=Nat) (fun a=>[(1,?v1_2),(3,sl pC (.own 7) (pV w v++pA V a)),(4,?v4_2),(5,.val (nI a))]) (fun a=>[some [sl vC .no w]]) (fun a=>a≤V.length) (fun a=>V.length - a) (0) (Nat.zero_le _) ?le_2 ?hh_2 ?bd_2
  case hh_2=>exact rfl
  case le_2=>(simp only[bQ,bl,↓bF,↓reduceIte,Nat.reduceEqDiff,ba,br,bc,bu,bv,and_true,true_and];all_goals (repeat' first|exact CLe.refl _|exact True.intro| (refine bH ?_;first|rfl| (simp only[List.take_zero];done)) |exact cU (by omega) |exact cM (by omega) |exact cN (by omega) |exact cO (by omega) |with_reducible apply And.intro));all_goals (first|exact CLe.refl _| (rw[show pA V 0= [] from rfl,List.append_nil];exact CLe.refl _))
  rintro k hk
  have hp2:=nu w v (k+1) hc10
  rw[hV] at hp2
  refine ae fun K4 hK4=>?_
  refine Tr.w hcx [] _ [] rfl rfl rfl ?_ iu
  refine aw rfl (fun hc21=>?_) (fun hc21=>?_)
  ·
   have hAk:=hAl k hc10 hc21
   rw[lj V k hc21,List.length_append] at hp2
   refine Tr.skip ?_
   refine hK4 _ ?_
   refine ae fun K5 hK5=>?_
   refine am ?_
   refine Tr.v hcx [24,1000035] _ [] rfl rfl rfl ?_ iu
   refine hK5 _ ?_
   refine Tr.k [1,3,4,5] ?_
   refine Tr.v hcx [1000023] _ [] rfl rfl rfl ?_ iu
   refine ⟨k+1,⟨(by omega),O1⟩,?_,rfl⟩
   (simp only[bQ,bl,↓bF,↓reduceIte,Nat.reduceEqDiff,ba,br,bc,bu,bv,and_true,true_and];all_goals (repeat' first|exact CLe.refl _|exact True.intro| (refine bH ?_;first|rfl| (simp only[List.take_zero];done)) |exact cU (by omega) |exact cM (by omega) |exact cN (by omega) |exact cO (by omega) |with_reducible apply And.intro))
   all_goals (first| (rw[lj V k hc21,List.append_assoc];exact CLe.refl _) |exact CLe.refl _)
  obtain rfl:k=V.length:=by omega
  refine Tr.exit ?_
  refine hK3 _ ?_
  refine Tr.v hcx [1000012] _ [] rfl rfl rfl ?_ iu
  refine ⟨v+1,⟨(by omega),O1⟩,?_,rfl⟩
  (simp only[bQ,bl,↓bF,↓reduceIte,Nat.reduceEqDiff,ba,br,bc,bu,bv,and_true,true_and];all_goals (repeat' first|exact CLe.refl _|exact True.intro| (refine bH ?_;first|rfl| (simp only[List.take_zero];done)) |exact cU (by omega) |exact cM (by omega) |exact cN (by omega) |exact cO (by omega) |with_reducible apply And.intro))
  all_goals (first| (rw[pI w v hc10,hV];exact CLe.refl _) |exact CLe.refl _)
 obtain rfl:v=w.length:=by omega
 rw[←lS]
 refine Tr.exit ?_
 refine hK1 _ ?_
 refine Tr.w hcx [1000036] _ [] rfl rfl rfl ?_ iu
 exact Tr.ret OT
end Go.Sx
namespace Go.Sx
open Go.RowKit Go.Proofs
set_option maxRecDepth 100000
set_option maxHeartbeats 8000000
theorem Kr (y:Nat) (a b c:Nat) :gN (some ⟨.struct #[Field.mk "By" 3 0 false "" "" 0,Field.mk "Seq" 3 1 false "" "" 8,Field.mk "K" 3 2 false "" "" 16],3,y,[nI 0,nI 0,nI 0]⟩) 1 [(0,.agg [.val (nI a),.val (nI b),.val (nI c)])] =some (vp (sl iD .full [((a:Int),(b:Int),(c:Int))])) :=rfl
attribute [go_sem high] Kr
def formT:List Nat:=[0,0,0,1,3,0,2,1]
def manyT:List Nat:=[0,0,0,0,1,2]
def rF (l:List Int)(a i:Nat):ID:=if cK l (a+3+i) 9=8 then (-1,0,0) else (0,(cK l (a+3+i) 9:Int),0)
def jr (l:List Int)(a n:Nat):List ID:=(List.range n).map (rF l a)
theorem qG (l:List Int)(a n:Nat):jr l a (n+1) =jr l a n++[rF l a n]:=by unfold jr;rw[List.range_succ,List.map_append];rfl
theorem mF (l:List Int)(a n:Nat): (jr l a n).length=n:=by simp[jr]
def gX (l:List Int)(a:Nat):Nat→List UInt8
 |0=>fR l (a+2)
 |n+1=>gX l a n++[32,64]
theorem kJ (l:List Int)(a:Nat):∀n,(gX l a n).length≤72+2*n
 |0=>(jq l (a+2)).2.1
 |n+1=>by
  have:=kJ l a n
  simp only[gX,List.length_append,List.length_cons,List.length_nil];omega
def gI (l:List Int)(a:Nat):Nat:=gt manyT (cK l (a+1) 6)
theorem nW (l:List Int)(a:Nat):gI l a≤2:=by
 have h:=er l (a+1) (m:=6) (by decide)
 have:=qx manyT (fun n=>decide (n≤2)) (by decide) _ h
 simpa[gI] using this
def aY (l:List Int)(a:Nat)(id:ID):aI:=(id,((gt formT (cK l a 8):Nat):Int),((cK l (a+1) 8 / 3:Nat):Int),gX l a (gI l a),jr l a (gI l a))
theorem Ks (n:Nat)(l:List Nat)(i:Nat)(x:Nat)(r:List (Nat×C))(h:i< l.length):eS n (cl nC l) ((i,.val (nI x))::r) =eS n (cl nC (l.set i x)) r:=by
 have e:=lF (f:=nC) l i x h
 rw[Nat.mul_one] at e
 have e2:splice (cl nC l) i [.val (nI x)] =cl nC (l.set i x):=e
 show (if [C.val (nI x)].length=1∧i+1≤(cl nC l).length then eS n (splice (cl nC l) i [.val (nI x)]) r else none) =_
 rw[if_pos ⟨rfl,by rw[aA (f:=nC)];omega⟩,e2]
attribute [go_sem] Ks
theorem FJ (pl:List (Nat×Nat))(x:ID)(a b c d e f g:C)(r:List (Nat×C)):yB pl (some (0,3)) (some (iD x)) [a,b,c,d,e,f,g] r=layS pl [.val (.int .i64 x.1),.val (.int .i64 x.2.1),.val (.int .i64 x.2.2),d,e,f,g] r:=rfl
attribute [go_sem high] FJ
theorem uY:sl nC .full (((((((((List.replicate 8 0).set 0 0).set 1 0).set 2 0).set 3 1).set 4 3).set 5 0).set 6 2).set 7 1) =sl nC .full formT:=rfl
theorem pJ:formT.length=8:=rfl
theorem uZ:sl nC .full (((((((List.replicate 6 0).set 0 0).set 1 0).set 2 0).set 3 0).set 4 1).set 5 2) =sl nC .full manyT:=rfl
theorem pK:manyT.length=6:=rfl
theorem Kt (y:Nat) (a:Int) (b c:Nat) :gN (some ⟨.struct #[Field.mk "By" 3 0 false "" "" 0,Field.mk "Seq" 3 1 false "" "" 8,Field.mk "K" 3 2 false "" "" 16],3,y,[nI 0,nI 0,nI 0]⟩) 1 [(0,.agg [.val (.int .i64 a),.val (nI b),.val (nI c)])] =some (vp (sl iD .full [(a,(b:Int),(c:Int))])) :=rfl
attribute [go_sem high] Kt
theorem BS {l:List Int}{a i:Nat}(h:cK l (a+3+i) 9=8):rF l a i= (-1,0,0):=if_pos h
theorem BT {l:List Int}{a i:Nat}(h:¬cK l (a+3+i) 9=8):rF l a i= (0,(cK l (a+3+i) 9:Int),0):=if_neg h
theorem BU {p:Prop}(e:p:=by intro KZ hZ;simp -implicitDefEqProofs (disch:=first|omega| (simp only[go_sem,lA,lD,lT] <;>omega) |decide) only[go_sem,↓reduceIte,Nat.reduceEqDiff,reduceCtorEq,Nat.reduceLT,Nat.reduceBEq,Nat.reduceAdd,hy];with_reducible exact hZ):p:=e
theorem OU {p:Prop}(e:p:=by simp -implicitDefEqProofs (disch:=first|omega| (simp only[go_sem,lA,lD,lT] <;>omega) |decide) only[go_sem,↓reduceIte,Nat.reduceEqDiff,reduceCtorEq]):p:=e
theorem UP {gl:Nat→C}{M:Nat}{pu:Nat→List C→Option C}(hcx:CxOK (aD gl M pu)):FC Tryd.prog gl 67 [] [] (.agg [.val (.int .i64 (-1)),.val (nI 0),.val (nI 0)]) []:=by
 replace hcx:=hcx.reN (M:=2)
 refine bI (cx:=aD gl 2 pu) (rs:=[.cell 0 34]) rfl Tryd.func67 rfl rfl rfl (by simp only[List.length_cons,List.length_nil];decide) (by simp only[go_sem]) ?_
 simp only[cZ,go_sem]
 have hy:=True.intro
 refine Tr.w hcx [] _ [none] rfl rfl rfl ?_ BU
 refine Tr.w hcx [] _ [] rfl rfl rfl ?_ BU
 exact Tr.ret OU
theorem ga {p:Prop}(e:p:=by intro KZ hZ;simp -implicitDefEqProofs (maxSteps:=2000000) (disch:=first|omega| (simp only[go_sem,lA,lD,lT,pJ,pK] <;>omega) |decide) only[go_sem,↓reduceIte,Nat.reduceEqDiff,reduceCtorEq,Nat.reduceLT,Nat.reduceBEq,Nat.reduceAdd,h67,e65,e66,uY,uZ,hy];with_reducible exact hZ):p:=e
theorem OV {p:Prop}(e:p:=by intro KZ hZ;simp -implicitDefEqProofs (maxSteps:=2000000) (disch:=first|omega| (simp only[go_sem,lA,lD,lT,pJ,pK] <;>omega) |decide) only[go_sem,↓reduceIte,Nat.reduceEqDiff,reduceCtorEq,Nat.reduceLT,Nat.reduceBEq,Nat.reduceAdd,h67,e65,e66,uY,uZ,hy];with_reducible refine And.intro ?_ hZ;first|exact rfl|decide):p:=e
theorem OW {p:Prop}(e:p:=by simp -implicitDefEqProofs (disch:=first|omega| (simp only[go_sem,lA,lD,lT,pJ,pK] <;>omega) |decide) only[go_sem,↓reduceIte,Nat.reduceEqDiff,reduceCtorEq];all_goals (rfl)):p:=e
theorem UQ {gl:Nat→C}{M:Nat}{pu:Nat→List C→Option C}(hcx:CxOK (aD gl M pu))(h65:∀ (l:List Int) (i m:Nat),LI l→i≤1000000∧0< m∧m≤9223372036854775807→pu 65 [sl iC .no l,.val (nI i),.val (nI m)] =some (.val (nI (cK l i m))))(h66:∀ (l:List Int) (k:Nat),LI l→k≤1000→pu 66 [sl iC .no l,.val (nI k)] =some (.val (str (fR l k))))(h67:pu 67 [] =some (.agg [.val (.int .i64 (-1)),.val (nI 0),.val (nI 0)]))(l:List Int)(k:Nat)(id:ID)(hl:LI l)(hk:k≤900):FC Tryd.prog gl 21 [sl iC .no l,.val (nI k),.agg (iD id)] [] (.agg (pC (aY l k id))) []:=by
 replace hcx:=hcx.reN (M:=62)
 refine bI (cx:=aD gl 62 pu) (rs:=[.cell 6 37]) rfl Tryd.func21 rfl rfl rfl (by simp only[List.length_cons,List.length_nil];decide) (by simp only[go_sem]) ?_
 simp only[cZ,go_sem]
 have hy:=True.intro
 have e65:=fun i m h=>h65 l i m hl h
 have e66:=fun k h=>h66 l k hl h
 have hA:=er l k (m:=8) (by decide)
 have hB:=er l (k+1) (m:=6) (by decide)
 have hB8:=er l (k+1) (m:=8) (by decide)
 have hN:=nW l k
 unfold gI at hN
 have hl1:=hl.1
 refine Tr.w hcx [] _ [none,none] rfl rfl rfl ?_ ga
 refine fh hcx eG [] _ [none] rfl rfl rfl rfl ?_ OV
 refine Tr.k [0,1,6,7] ?_
 refine Tr.w hcx [1000034] _ [] rfl rfl rfl ?_ ga
 refine ae fun K1 hK1=>?_
 refine Tr.w hcx [] _ [] rfl rfl rfl ?_ ga
 refine Tr.k [0,1,6,7,8,9] ?_
 refine am ?_
 refine Tr.k [0,1,6,7,8,9] ?_
 refine bD hcx [1,2] ?_
 refine Tr.bxc 1 6 (sl iD (.own 3) []) _ rfl rfl (bH rfl) rfl ?_
 simp only[List.set_cons_succ,List.set_cons_zero]
 refine aV (α:=Nat) (fun a=>[(0,?v0_1),(1,?v1_1),(6,?v6_1),(7,?v7_1),(8,?v8_1),(9,.val (nI a))]) (fun a=>[some [.val (nI 0),.val (nI 0),.val (nI 0),.val (nI 0),.val (nI 0),.val (str []),.val (.slice none 0 0)],some [.val (.int .i64 id.1),.val (.int .i64 id.2.1),.val (.int .i64 id.2.2),.val (nI (gt formT (cK l k 8))),.val (nI (cK l (k+1) 8 / 3)),.val (str (gX l k a)),sl iD (.own 3) (jr l k a)]]) (fun a=>a≤gt manyT (cK l (k+1) 6)) (fun a=>gt manyT (cK l (k+1) 6) - a) (0) (Nat.zero_le _) ?le_1 ?hh_1 ?bd_1
 case hh_1=>exact rfl
 case le_1=>exact LT
 rintro i hi
 have hP:=mF l k i
 have hT:=kJ l k i
 refine ae fun K2 hK2=>?_
 refine Tr.w hcx [] _ [] rfl rfl rfl ?_ ga
 refine aw rfl (fun hc37=>?_) (fun hc37=>?_)
 ·
  refine Tr.skip ?_
  refine hK2 _ ?_
  refine ae fun K3 hK3=>?_
  refine am ?_
  refine Tr.w hcx [] _ [] rfl rfl rfl ?_ ga
  refine Tr.w hcx [] _ [none] rfl rfl rfl ?_ ga
  refine ae fun K4 hK4=>?_
  refine Tr.w hcx [] _ [] rfl rfl rfl ?_ ga
  refine aw rfl (fun hc53=>?_) (fun hc53=>?_)
  ·
   refine Tr.v hcx [] _ [] rfl rfl rfl ?_ ga
   refine hK4 _ ?_
   refine Tr.k [0,1,6,7,8,9,10] ?_
   refine Tr.v hcx [56] _ [] rfl rfl rfl ?_ ga
   refine hK3 _ ?_
   refine Tr.k [0,1,6,7,8,9] ?_
   refine bD hcx [0,1] ?_
   refine Tr.v hcx [1000039] _ [] rfl rfl rfl ?_ ga
   exact ⟨i+1,⟨(by omega),O1⟩,LT,by first| (simp only[qG,BS hc53];rfl) | (simp only[qG,BT hc53];rfl)⟩
  refine Tr.skip ?_
  refine hK4 _ ?_
  refine Tr.k [0,1,6,7,8,9,10] ?_
  refine Tr.v hcx [56] _ [] rfl rfl rfl ?_ ga
  refine hK3 _ ?_
  refine Tr.k [0,1,6,7,8,9] ?_
  refine bD hcx [0,1] ?_
  refine Tr.v hcx [1000039] _ [] rfl rfl rfl ?_ ga
  exact ⟨i+1,⟨(by omega),O1⟩,LT,by first| (simp only[qG,BS hc53];rfl) | (simp only[qG,BT hc53];rfl)⟩
 obtain rfl:i=gt manyT (cK l (k+1) 6):=by omega
 refine Tr.exit ?_
 refine hK1 _ ?_
 refine Tr.w hcx [] _ [] rfl rfl rfl ?_ ga
 exact Tr.ret OW
end Go.Sx
