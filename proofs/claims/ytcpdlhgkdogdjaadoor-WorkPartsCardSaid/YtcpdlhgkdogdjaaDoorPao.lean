/-
   And what follows.
-/
import Derived.Test.YtcpdlhgkdogdjaaDoorPak
import Derived.Test.YtcpdlhgkdogdjaaDoorPan
set_option linter.unusedSimpArgs false
set_option linter.unusedVariables false
namespace Go.Sx
open Go.RowKit
structure Mk (P:Program) (gl:Nat→C) (f:Nat) (α:Type) where
 args:α→List C
 r:α→C
 Y:α→Hp
 nr:∀a,noRefs 0 (args a) =true
 inj:∀a b,args a=args b→r a=r b∧Y a=Y b
 fc:∀a,FC P gl f (args a) [] (r a) (Y a)
section
variable {P:Program} {gl:Nat→C} {f:Nat} {α:Type}
abbrev Kh (α:Type):=α× {h:Hp // OkH h}
def Mk.enc (S:Mk P gl f α)(x:Kh α):List C×Hp:=(S.args x.1,x.2.1)
def Mk.out (S:Mk P gl f α)(x:Kh α):C×Hp:=(bU (x.2.1.length+ ·) (S.r x.1),x.2.1++dn x.2.1.length (S.Y x.1))
theorem Mk.ij (S:Mk P gl f α)(x y:Kh α)(h:S.enc x=S.enc y):S.out x=S.out y:=by
 obtain ⟨a,k,hk⟩:=x;obtain ⟨b,m,hm⟩:=y
 simp only[Mk.enc,Prod.mk.injEq] at h
 obtain ⟨h1,rfl⟩:=h
 obtain ⟨q1,q2⟩:=S.inj a b h1
 simp only[Mk.out,q1,q2]
noncomputable def Mk.tab (S:Mk P gl f α)(hp:Nat→List C→Hp→Option (C×Hp)):Nat→List C→Hp→Option (C×Hp):=extH hp f (nu S.enc S.out)
theorem sZ {km:TypeId→Value→Bool}{pu:Nat→List C→Option C}{hp:Nat→List C→Hp→Option (C×Hp)}{N M:Nat}(hcx:CxOK ⟨P,N,gl,pu,hp,fun _=>false,km,true⟩)(S:Mk P gl f α):
 CxOK ⟨P,M,gl,pu,S.tab hp,fun _=>false,km,true⟩:=CxOK.extH hcx fun x=>by
 obtain ⟨a,pre,hpre⟩:=x
 have h:=FC.pre (S.fc a) pre hpre (fun o ho=>by cases ho) (S.nr a) (fun o ho=>by cases ho) (Nat.zero_le _) hcx.glo
 rw[bks_nr _ _ (S.nr a),show dn pre.length ([]:Hp) = [] from rfl,List.append_nil] at h
 exact h
theorem Mk.look (S:Mk P gl f α)(hp:Nat→List C→Hp→Option (C×Hp))(a:α)(pre:Hp)(h1:OkH pre):
 S.tab hp f (S.args a) pre=some (bU (pre.length+ ·) (S.r a),pre++dn pre.length (S.Y a)):=
 (sr _ _).trans (BW S.ij (a,⟨pre,h1⟩))
end
end Go.Sx
namespace Go.Sx
open Go.RowKit Go.Proofs
set_option maxRecDepth 100000
set_option maxHeartbeats 8000000
theorem LR (a b c d e f g x y z:C):dJ [a,b,c,d,e,f,g] 0 [x,y,z] =some ([x,y,z,d,e,f,g],.val undef):=rfl
attribute [go_sem high] LR
theorem Hb (u:TypeDesc)(y:Nat)(a0 a1 a2 a3 a4 a5 a6 b0 b1 b2 b3 b4 b5 b6 c0 c1 c2 c3 c4 c5 c6:C):Dw 37 (some ⟨u,7,y,[nI 0,nI 0,nI 0,nI 0,nI 0,str [],.slice none 0 0]⟩) 3 [(0,.agg [a0,a1,a2,a3,a4,a5,a6]),(1,.agg [b0,b1,b2,b3,b4,b5,b6]),(2,.agg [c0,c1,c2,c3,c4,c5,c6])] =some (.ap none (7,37) 3 fun _=>some [a0.noR,a1.noR,a2.noR,a3.noR,a4.noR,a5.noR,a6.noR,b0.noR,b1.noR,b2.noR,b3.noR,b4.noR,b5.noR,b6.noR,c0.noR,c1.noR,c2.noR,c3.noR,c4.noR,c5.noR,c6.noR]):=rfl
theorem Hc (u:TypeDesc)(y:Nat)(a b:C):Dw 48 (some ⟨u,2,y,[str [],.slice none 0 0]⟩) 1 [(0,.agg [a,b])] =some (.ap none (2,48) 1 fun _=>some [a.noR,b.noR]):=rfl
theorem Hd (u:TypeDesc)(y:Nat)(a:C):Dw 46 (some ⟨u,1,y,[.slice none 0 0]⟩) 1 [(0,.agg [a])] =some (.ap none (1,46) 1 fun _=>some [a.noR]):=rfl
attribute [go_sem high] Hb Hc Hd
def rj:List UInt8:=[116,104,101,32,107,105,110,103,32,64]
def oR:List UInt8:=[97,32,108,121,114,101]
def oS:List UInt8:=[114,111,109,101]
def bw:List UInt8:=[79,100,101,115]
def exPs:List aN:=[((0,0,0),0,0,rj,[(0,1,0)]),((0,1,0),1,0,oR,[]),((0,2,0),2,0,oS,[])]
theorem tq {p:Prop}(e:p:=by intro KZ hZ;simp -implicitDefEqProofs (disch:=first|omega| (simp only[go_sem,lA,lD,lT] <;>omega) |decide) only[go_sem,↓reduceIte,Nat.reduceEqDiff,reduceCtorEq,Nat.reduceLT,Nat.reduceBEq,Nat.reduceAdd,hy];with_reducible exact hZ):p:=e
theorem LS {p:Prop}(e:p:=by simp -implicitDefEqProofs (disch:=first|omega| (simp only[go_sem,lA,lD,lT] <;>omega) |decide) only[go_sem,↓reduceIte,Nat.reduceEqDiff,reduceCtorEq];all_goals (rfl)):p:=e
theorem Qc {gl:Nat→C}{M:Nat}{pu:Nat→List C→Option C}(hcx:CxOK (aS gl M pu)):FC Tryd.prog gl 64 [] [] (.agg [.gv 3 1 (1,46)]) [some [.gv 3 1 (1,46)],some (cl pC exPs),some [.val (str bw),.gv 1 3 (7,37)],some [.gv 2 1 (2,48)]]:=by
 replace hcx:=hcx.reN (M:=16)
 refine yF (cx:=aS gl 16 pu) (rs:=[.cell 0 29]) rfl Tryd.func64 rfl rfl rfl (by simp only[List.length_cons,List.length_nil];decide) ?_
 simp only[dm,go_sem]
 have hy:=True.intro
 refine Tr.w hcx [] _ [none] rfl rfl rfl ?_ tq
 refine vV hcx [9] [1000009] _ [] rfl rfl rfl ?_ tq
 refine vV hcx [12,14] [] _ [] rfl rfl rfl ?_ tq
 refine Tr.bxc 1 6 (sl iD .no [(0,1,0)]) _ rfl rfl (CLe.full ..) rfl ?_
 refine Tr.bxc 1 13 (sl iD .no []) _ rfl rfl (bS rfl) rfl ?_
 refine Tr.bxc 1 20 (sl iD .no []) _ rfl rfl (bS rfl) rfl ?_
 simp only[List.set_cons_succ,List.set_cons_zero]
 exact Tr.ret LS
end Go.Sx
namespace Go.Sx
open Go.RowKit Go.Proofs
set_option maxRecDepth 100000
set_option maxHeartbeats 8000000
noncomputable def iy (gl:Nat→C)(M:Nat)(pu:Nat→List C→Option C)(hp:Nat→List C→Hp→Option (C×Hp)):Cx:=⟨Tryd.prog,M,gl,pu,hp,fun _=>false,m3,true⟩
section
variable {gl:Nat→C} {M:Nat} {pu:Nat→List C→Option C} {hp:Nat→List C→Hp→Option (C×Hp)}
theorem Ob: (iy gl M pu hp).P=Tryd.prog:=rfl
theorem Oc: (iy gl M pu hp).N=M:=rfl
theorem LZ: (iy gl M pu hp).pu=pu:=rfl
theorem L0: (iy gl M pu hp).hp=hp:=rfl
theorem L3 (g:Nat)(az:List C)(o:Option (C×Hp)):re (iy gl M pu hp) g az none o=some (.call g az):=rfl
theorem L4 (d:Option Nat):iX (iy gl M pu hp) d=false:=by cases d<;>rfl
end
theorem L5 {gl:Nat→C}{M:Nat}{pu:Nat→List C→Option C}{hp:Nat→List C→Hp→Option (C×Hp)}: (iy gl M pu hp).P.follows .mixedOrders=true:=aW (gl:=gl) (M:=M) (pu:=pu)
attribute [go_sem] L3 Ob Oc LZ L0 L4
theorem Qe (t:List UInt8)(ps:List aN):aK [[(t,ps)]] =jY 0 0 ps:=by
 show ([0]:List Nat).flatMap (fun v=>([0]:List Nat).flatMap fun a=>jY v a ps) =_
 simp
def OkOne (ps:List aN):Prop:=ps.length≤1000∧∀i,i< ps.length→(gt ps i).2.2.2.1.length≤1000∧(gt ps i).2.2.2.2.length≤1000∧b9 (gt ps i).1
theorem OkOne.rd {t:List UInt8}{ps:List aN}(h:OkOne ps): (aK [[(t,ps)]]).length=ps.length∧∀i,i< ps.length→(gt (aK [[(t,ps)]]) i).2=gt ps i:=by
 rw[Qe,pP]
 exact ⟨rfl,fun i hi=>by rw[zy 0 0 ps i hi]⟩
theorem OkOne.wb {t:List UInt8}{ps:List aN}(h:OkOne ps):WB [[(t,ps)]]:=by
 refine ⟨by show 1< _;decide,fun v hv=>?_,fun v a hv ha=>?_⟩
 . obtain rfl:v=0:=by simpa using hv
   show 1< _;decide
 . obtain rfl:v=0:=by simpa using hv
   obtain rfl:a=0:=by have:a< 1:=ha;omega
   show ps.length< _
   have:=h.1;omega
theorem OkOne.ws {t:List UInt8}{ps:List aN}(h:OkOne ps):WS [[(t,ps)]]:=by
 have hr:=h.rd (t:=t)
 refine ⟨h.wb,by rw[hr.1];have:=h.1;omega,fun i hi=>?_⟩
 rw[hr.1] at hi
 rw[hr.2 i hi];have:=(h.2 i hi).2.1;omega
theorem OkOne.tx {t:List UInt8}{ps:List aN}(h:OkOne ps):∀i,i< (aK [[(t,ps)]]).length→(gt (aK [[(t,ps)]]) i).2.2.2.2.1.length≤1000000:=fun i hi=>by
 have hr:=h.rd (t:=t)
 rw[hr.1] at hi
 rw[hr.2 i hi];have:=(h.2 i hi).1;omega
theorem OkOne.id {t:List UInt8}{ps:List aN}(h:OkOne ps):∀i,i< (aK [[(t,ps)]]).length→b9 (gt (aK [[(t,ps)]]) i).2.1:=fun i hi=>by
 have hr:=h.rd (t:=t)
 rw[hr.1] at hi
 rw[hr.2 i hi];exact (h.2 i hi).2.2
theorem OkOne.tt {t:List UInt8}{ps:List aN}(h:t.length≤1000):∀v a,v< [[(t,ps)]].length→a< (gt [[(t,ps)]] v).length→(gt (gt [[(t,ps)]] v) a).1.length≤1000000:=fun v a hv ha=>by
 obtain rfl:v=0:=by simpa using hv
 obtain rfl:a=0:=by have:a< 1:=ha;omega
 show t.length≤_;omega
def g5:List aN:=[((0,0,0),0,0,rj,[]),((0,1,0),1,0,oR,[]),((0,2,0),2,0,oS,[])]
def ik:List aN:=[((0,1,0),1,0,oR,[]),((0,2,0),2,0,oS,[])]
def jC:List aN:=[((0,0,0),2,0,rj,[(0,1,0)]),((0,1,0),1,0,oR,[]),((0,2,0),2,0,oS,[])]
def mX:List aN:=[((0,0,0),0,0,rj,[(0,1,0)]),((0,1,0),1,0,oR,[]),((0,0,0),2,0,oS,[])]
def DR (ps:List aN):Bool:=decide (ps.length≤1000) && ps.all fun p=>decide (p.2.2.2.1.length≤1000) && decide (p.2.2.2.2.length≤1000) && gO p.1
theorem OkOne.of {ps:List aN}(h:DR ps=true):OkOne ps:=by
 unfold DR at h
 rw[Bool.and_eq_true,decide_eq_true_iff] at h
 refine ⟨h.1,fun i hi=>?_⟩
 have:=oG ps _ h.2 i hi
 simp only[Bool.and_eq_true,decide_eq_true_iff] at this
 refine ⟨this.1.1,this.1.2,?_⟩
 have h3:=this.2
 unfold gO at h3
 rw[decide_eq_true_iff] at h3
 refine ⟨⟨?_,?_⟩,⟨?_,?_⟩,?_,?_⟩ <;>omega
theorem gL:OkOne exPs:= .of (by decide+kernel)
theorem wd:OkOne g5:= .of (by decide+kernel)
theorem we:OkOne ik:= .of (by decide+kernel)
theorem wh:OkOne jC:= .of (by decide+kernel)
theorem wj:OkOne mX:= .of (by decide+kernel)
theorem Qf:ec [[(bw,exPs)]] =0:=by decide+kernel
theorem Qg:ec [[(bw,g5)]] =1:=by decide+kernel
theorem Qh:ec [[(bw,ik)]] =8:=by decide+kernel
theorem Qi:ec [[(bw,jC)]] =8:=by decide+kernel
theorem Qj:ec [[(bw,mX)]] =7:=by decide+kernel
theorem Qk:ga [[(bw,exPs)]] (0,1,0) = ((0,0,1),true):=by decide+kernel
theorem Ql: (cN (cR [(0,2,0),(5,5,5),(0,0,0)]) (cB [[(bw,exPs)]])).2= [(0,0,0),(0,2,0)]:=by decide+kernel
theorem Qm: (cN (cR [(0,0,0),(0,2,0)]) (cB [[(bw,exPs)]])).2= [(0,0,0),(0,2,0)]:=by decide+kernel
theorem Od: (cN (cR [(0,2,0),(0,2,0)]) (cB [[(bw,exPs)]])).2= [(0,2,0)]:=by decide+kernel
theorem CU (y:Nat) (a b c d e f g h i:Nat) :fE (some ⟨.struct #[Field.mk "By" 3 0 false "" "" 0,Field.mk "Seq" 3 1 false "" "" 8,Field.mk "K" 3 2 false "" "" 16],3,y,[nI 0,nI 0,nI 0]⟩) 3 [(0,.agg [.val (nI a),.val (nI b),.val (nI c)]),(1,.agg [.val (nI d),.val (nI e),.val (nI f)]),(2,.agg [.val (nI g),.val (nI h),.val (nI i)])] =some (vp (sl iD .full [((a:Int),(b:Int),(c:Int)),((d:Int),(e:Int),(f:Int)),((g:Int),(h:Int),(i:Int))])) :=rfl
theorem CV (y:Nat) (a b c d e f:Nat) :fE (some ⟨.struct #[Field.mk "By" 3 0 false "" "" 0,Field.mk "Seq" 3 1 false "" "" 8,Field.mk "K" 3 2 false "" "" 16],3,y,[nI 0,nI 0,nI 0]⟩) 2 [(0,.agg [.val (nI a),.val (nI b),.val (nI c)]),(1,.agg [.val (nI d),.val (nI e),.val (nI f)])] =some (vp (sl iD .full [((a:Int),(b:Int),(c:Int)),((d:Int),(e:Int),(f:Int))])) :=rfl
attribute [go_sem high] CU CV
theorem L6 (d:Nat)(x1 x2 x3 y1 y2 y3:Nat):fW Tryd.prog (d+2) 53 (.agg [.val (nI x1),.val (nI x2),.val (nI x3)]) (.agg [.val (nI y1),.val (nI y2),.val (nI y3)]) =some (decide (x1=y1∧x2=y2∧x3=y3)):=by
 have hn:∀a b:Nat,fW Tryd.prog (d+1) 3 (.val (nI a)) (.val (nI b)) =some (decide (a=b)):=fun a b=>by
  have:=uu Tryd.prog d gN a b
  rw[nI,nI,this];congr 1;rw[decide_eq_decide];omega
 unfold fW
 rw[Ic]
 simp only[]
 rw[gN]
 simp only[C.agg?]
 show (match fW Tryd.prog (d+1) 3 (.val (nI x1)) (.val (nI y1)) with|some true=>_|r=>r) =_
 rw[hn]
 by_cases h1:x1=y1
 . rw[decide_eq_true h1]
   show (match fW Tryd.prog (d+1) 3 (.val (nI x2)) (.val (nI y2)) with|some true=>_|r=>r) =_
   rw[hn]
   by_cases h2:x2=y2
   . rw[decide_eq_true h2]
     show (match fW Tryd.prog (d+1) 3 (.val (nI x3)) (.val (nI y3)) with|some true=>_|r=>r) =_
     rw[hn]
     by_cases h3:x3=y3
     . rw[decide_eq_true h3];simp[pm,h1,h2,h3]
     . rw[decide_eq_false h3];simp[h3]
   . rw[decide_eq_false h2];simp[h2]
 . rw[decide_eq_false h1];simp[h1]
theorem Qn (op:BinOp)(x1 x2 x3 y1 y2 y3:Nat):aO Tryd.prog op 53 (.agg [.val (nI x1),.val (nI x2),.val (nI x3)]) (.agg [.val (nI y1),.val (nI y2),.val (nI y3)]) =sn op (decide (x1=y1∧x2=y2∧x3=y3)):=tW Tryd.prog op (by kernel_rfl) (L6 7 x1 x2 x3 y1 y2 y3)
attribute [go_sem] Qn
theorem Oe:dJ (cl pC exPs) 6 [.val (.slice none 0 0)] =some ((cl pC exPs).set 6 (.val (.slice none 0 0)),.val undef):=rfl
theorem Of:dJ (cl pC exPs) 3 [.val (nI 2)] =some (cl pC jC,.val undef):=rfl
theorem L7:dJ (cl pC exPs) (2*7) [.val (nI 0),.val (nI 0),.val (nI 0)] =some (cl pC mX,.val undef):=rfl
theorem L8: ((cl pC exPs).set 6 (.val (.slice none 0 0))).set 6 (sl iD .no []) =cl pC g5:=rfl
attribute [go_sem high] Oe Of L7
theorem tr (l:List aN)(h:3=l.length):fS (cl pC l) 3 (7,37) =sl pC .no l:=jQ pC 37 l 3 h
theorem tu (t:List UInt8)(l:List aN):fS [.val (str t),sl pC .no l] 1 (2,48) =sl aC .no [(t,l)]:=rfl
theorem tv (l:List fH):fS [sl aC .no l] 1 (1,46) =sl vC .no [l]:=rfl
theorem e4 {p:Prop}(e:p:=by intro KZ hZ;simp -implicitDefEqProofs (disch:=first|omega| (simp only[go_sem,lA,lD,lT] <;>omega) |decide) only[go_sem,↓reduceIte,Nat.reduceEqDiff,reduceCtorEq,Nat.reduceLT,Nat.reduceBEq,Nat.reduceAdd,n64,e64,e32,e28,e25,e27,e30a,e30b,e12a,e12b,e12c,e12d,e12e,hy];with_reducible exact hZ):p:=e
theorem L9 {p:Prop}(e:p:=by intro KZ hZ;simp -implicitDefEqProofs (disch:=first|omega| (simp only[go_sem,lA,lD,lT] <;>omega) |decide) only[go_sem,↓reduceIte,Nat.reduceEqDiff,reduceCtorEq,Nat.reduceLT,Nat.reduceBEq,Nat.reduceAdd,n64,e64,e32,e28,e25,e27,e30a,e30b,e12a,e12b,e12c,e12d,e12e,hy];with_reducible refine And.intro ?_ hZ;first|exact rfl|decide):p:=e
theorem Ma {p:Prop}(e:p:=by simp -implicitDefEqProofs (disch:=first|omega| (simp only[go_sem,lA,lD,lT] <;>omega) |decide) only[go_sem,↓reduceIte,Nat.reduceEqDiff,reduceCtorEq];all_goals (rfl)):p:=e
theorem Qo {gl:Nat→C}{M:Nat}{pu:Nat→List C→Option C}{hp:Nat→List C→Hp→Option (C×Hp)}(hcx:CxOK (iy gl M pu hp))(n64:∀xs:List C,pu 64 xs=none)(hq64:∀pre:Hp,OkH pre→hp 64 [] pre=some (.agg [.gv (pre.length+3) 1 (1,46)],pre++[some [.gv (pre.length+3) 1 (1,46)],some (cl pC exPs),some [.val (str bw),.gv (pre.length+1) 3 (7,37)],some [.gv (pre.length+2) 1 (2,48)]]))(h27:∀l m:List ID,l.length≤1000000→m.length≤1000000→pu 27 [sl iD .no l,sl iD .no m] =some (.val (.bool (decide (l=m)))))(h28:∀ (w:aj) (l:List ID),WS w→(∀x∈l,b9 x)→l.length≤1000000→(∀i,i< (aK w).length→b9 (gt (aK w) i).2.1)→pu 28 [.agg [sl vC .no w],sl iD .no l] =some (sl iD .no (cN (cR l) (cB w)).2))(h30:∀ (w:aj) (a b:ID),WS w→b9 a→b9 b→(∀i,i< (aK w).length→b9 (gt (aK w) i).2.1)→pu 30 [.agg [sl vC .no w],.agg (iD a),.agg (iD b)] =some (.val (.bool (decide ((cN (cR [a,b]) (cB w)).2.length=2∧gt (cN (cR [a,b]) (cB w)).2 0=a)))))(h12:∀w:aj,WS w→(∀i,i< (aK w).length→(gt (aK w) i).2.2.2.2.1.length≤1000000)→(∀v a,v< w.length→a< (gt w v).length→(gt (gt w v) a).1.length≤1000000)→(∀i,i< (aK w).length→b9 (gt (aK w) i).2.1)→pu 12 [.agg [sl vC .no w]] =some (.val (nI (ec w))))(h32:∀ (w:aj) (id:ID),WB w→pu 32 [.agg [sl vC .no w],.agg (iD id)] =some (.tup [.agg [.val (nI (ga w id).1.1),.val (nI (ga w id).1.2.1),.val (nI (ga w id).1.2.2)],.val (.bool (ga w id).2)]))(h25:∀w:aj,WS w→nA w w.length≤1000000→pu 25 [.agg [sl vC .no w]] =some (.agg [.val (nI w.length),.val (nI (nA w w.length)),.val (nI (cB w).length)])):FC Tryd.prog gl 17 [] [] (.val (.bool true)) []:=by
 replace hcx:=hcx.reN (M:=140)
 refine cf (cx:=iy gl 140 pu hp) (rs:=[.tmp 0]) rfl Tryd.func17 rfl rfl rfl (by simp only[List.length_cons,List.length_nil];decide) (by simp only[go_sem]) ?_
 simp only[dm,go_sem]
 have hy:=True.intro
 have aW:= @L5
 have e64:=hq64 [none] (OkH.cons rfl OkH.nil)
 simp only[List.length_cons,List.length_nil,List.cons_append,List.nil_append,Nat.zero_add,Nat.reduceAdd] at e64
 have e32:pu 32 [.agg [sl vC .no [[(bw,exPs)]]],.agg [.val (nI 0),.val (nI 1),.val (nI 0)]] =some (.tup [.agg [.val (nI 0),.val (nI 0),.val (nI 1)],.val (.bool true)]):=by have h:=h32 [[(bw,exPs)]] (0,1,0) (OkOne.wb gL);rw[Qk] at h;exact h
 have e28:pu 28 [.agg [sl vC .no [[(bw,exPs)]]],sl iD .no [(((0:Nat):Int),((2:Nat):Int),((0:Nat):Int)),(((5:Nat):Int),((5:Nat):Int),((5:Nat):Int)),(((0:Nat):Int),((0:Nat):Int),((0:Nat):Int))]] =some (sl iD .no [(((0:Nat):Int),((0:Nat):Int),((0:Nat):Int)),(((0:Nat):Int),((2:Nat):Int),((0:Nat):Int))]):=by have h:=h28 [[(bw,exPs)]] [(0,2,0),(5,5,5),(0,0,0)] (OkOne.ws gL) (by intro x hx;simp only[List.mem_cons,List.not_mem_nil,or_false] at hx;rcases hx with rfl|rfl|rfl<;>exact ⟨⟨by decide,by decide⟩,⟨by decide,by decide⟩,by decide,by decide⟩) (by decide) (OkOne.id gL);rw[Ql] at h;exact h
 have e25:pu 25 [.agg [sl vC .no [[(bw,exPs)]]]] =some (.agg [.val (nI 1),.val (nI 1),.val (nI 3)]):=h25 [[(bw,exPs)]] (OkOne.ws gL) (by decide)
 have e27:pu 27 [sl iD .no [(((0:Nat):Int),((0:Nat):Int),((0:Nat):Int)),(((0:Nat):Int),((2:Nat):Int),((0:Nat):Int))],sl iD .no [(((0:Nat):Int),((0:Nat):Int),((0:Nat):Int)),(((0:Nat):Int),((2:Nat):Int),((0:Nat):Int))]] =some (.val (.bool true)):=(h27 [(((0:Nat):Int),((0:Nat):Int),((0:Nat):Int)),(((0:Nat):Int),((2:Nat):Int),((0:Nat):Int))] _ (by decide) (by decide)).trans (by rw[decide_eq_true rfl])
 have e30a:pu 30 [.agg [sl vC .no [[(bw,exPs)]]],.agg [.val (nI 0),.val (nI 0),.val (nI 0)],.agg [.val (nI 0),.val (nI 2),.val (nI 0)]] =some (.val (.bool true)):=by have h:=h30 [[(bw,exPs)]] (0,0,0) (0,2,0) (OkOne.ws gL) ⟨⟨by decide,by decide⟩,⟨by decide,by decide⟩,by decide,by decide⟩ ⟨⟨by decide,by decide⟩,⟨by decide,by decide⟩,by decide,by decide⟩ (OkOne.id gL);rw[Qm] at h;exact h
 have e30b:pu 30 [.agg [sl vC .no [[(bw,exPs)]]],.agg [.val (nI 0),.val (nI 2),.val (nI 0)],.agg [.val (nI 0),.val (nI 2),.val (nI 0)]] =some (.val (.bool false)):=by have h:=h30 [[(bw,exPs)]] (0,2,0) (0,2,0) (OkOne.ws gL) ⟨⟨by decide,by decide⟩,⟨by decide,by decide⟩,by decide,by decide⟩ ⟨⟨by decide,by decide⟩,⟨by decide,by decide⟩,by decide,by decide⟩ (OkOne.id gL);rw[Od] at h;exact h
 have e12a:pu 12 [.agg [sl vC .no [[(bw,exPs)]]]] =some (.val (nI 0)):=by rw[h12 [[(bw,exPs)]] (OkOne.ws gL) (OkOne.tx gL) (OkOne.tt (by decide)) (OkOne.id gL),Qf]
 have e12b:pu 12 [.agg [sl vC .no [[(bw,g5)]]]] =some (.val (nI 1)):=by rw[h12 [[(bw,g5)]] (OkOne.ws wd) (OkOne.tx wd) (OkOne.tt (by decide)) (OkOne.id wd),Qg]
 have e12c:pu 12 [.agg [sl vC .no [[(bw,ik)]]]] =some (.val (nI 8)):=by rw[h12 [[(bw,ik)]] (OkOne.ws we) (OkOne.tx we) (OkOne.tt (by decide)) (OkOne.id we),Qh]
 have e12d:pu 12 [.agg [sl vC .no [[(bw,jC)]]]] =some (.val (nI 8)):=by rw[h12 [[(bw,jC)]] (OkOne.ws wh) (OkOne.tx wh) (OkOne.tt (by decide)) (OkOne.id wh),Qi]
 have e12e:pu 12 [.agg [sl vC .no [[(bw,mX)]]]] =some (.val (nI 7)):=by rw[h12 [[(bw,mX)]] (OkOne.ws wj) (OkOne.tx wj) (OkOne.tt (by decide)) (OkOne.id wj),Qj]
 refine Tr.w hcx [] _ [] rfl rfl rfl ?_ e4
 refine Tr.w hcx [] _ [none] rfl rfl rfl ?_ e4
 refine ab hcx 2 (cl pC exPs) ?_
 simp only[tr exPs rfl]
 refine ab hcx 3 [.val (str bw),sl pC .no exPs] ?_
 simp only[tu]
 refine ab hcx 4 [sl aC .no [(bw,exPs)]] ?_
 simp only[tv]
 refine Tr.k [1] ?_
 refine ah hcx [0] ?_
 refine ab hcx 0 [sl vC .no [[(bw,exPs)]]] ?_
 refine ah hcx [] ?_
 refine Tr.w hcx [1000015] _ [none] rfl rfl rfl ?_ e4
 refine Tr.w hcx [1000021] _ [] rfl rfl rfl ?_ e4
 refine Tr.k [1,2,3,4] ?_
 refine af fun K1 hK1=>?_
 refine Tr.w hcx [] [some 22,some 23,some 24,some 25,some 26,some 27,some 28,some 29,some 30,some 31,some 32,some 33,some 34,some 35,some 36,some 37,some 38,some 39,some 40,some 41,some 42,some 43,some 44,some 45,some 46,some 47,some 48,some 49,some 50,some 51,some 52,some 53,some 54,some 55,some 56,some 57] [] rfl rfl rfl ?_ e4
 refine Tr.k [1,57] ?_
 refine au rfl ?_
 refine Tr.skip ?_
 refine hK1 _ ?_
 refine Tr.k [1] ?_
 refine ah hcx [] ?_
 refine Tr.w hcx [] _ [none] rfl rfl rfl ?_ e4
 refine Tr.w hcx [] _ [] rfl rfl rfl ?_ e4
 refine Tr.bxc 2 6 (sl iD .no []) ((cl pC exPs).set 6 (.val (.slice none 0 0))) rfl rfl (bS rfl) rfl ?_
 simp only[L8]
 simp only[List.set_cons_succ,List.set_cons_zero]
 refine ab hcx 2 (cl pC g5) ?_
 simp only[tr g5 rfl]
 refine ab hcx 3 [.val (str bw),sl pC .no g5] ?_
 simp only[tu]
 refine ab hcx 4 [sl aC .no [(bw,g5)]] ?_
 simp only[tv]
 refine Tr.k [1,5] ?_
 refine ah hcx [0] ?_
 refine ab hcx 0 [sl vC .no [[(bw,g5)]]] ?_
 refine ah hcx [] ?_
 refine Tr.w hcx [] _ [none] rfl rfl rfl ?_ e4
 refine Tr.k [1,5,6] ?_
 refine ab hcx 2 (cl pC exPs) ?_
 simp only[tr exPs rfl]
 refine bB hcx aW [] _ [] rfl rfl rfl rfl ?_ L9
 simp only[show exPs.drop 1=ik from rfl]
 refine ab hcx 3 [.val (str bw),sl pC .no ik] ?_
 simp only[tu]
 refine ab hcx 4 [sl aC .no [(bw,ik)]] ?_
 simp only[tv]
 refine Tr.k [1,5,6] ?_
 refine ah hcx [0] ?_
 refine ab hcx 0 [sl vC .no [[(bw,ik)]]] ?_
 refine ah hcx [] ?_
 refine Tr.w hcx [] _ [none] rfl rfl rfl ?_ e4
 refine Tr.k [1,5,6,7] ?_
 refine Tr.w hcx [] _ [] rfl rfl rfl ?_ e4
 refine ab hcx 2 (cl pC jC) ?_
 simp only[tr jC rfl]
 refine ab hcx 3 [.val (str bw),sl pC .no jC] ?_
 simp only[tu]
 refine ab hcx 4 [sl aC .no [(bw,jC)]] ?_
 simp only[tv]
 refine Tr.k [1,5,6,7] ?_
 refine ah hcx [0] ?_
 refine ab hcx 0 [sl vC .no [[(bw,jC)]]] ?_
 refine ah hcx [] ?_
 refine Tr.w hcx [] _ [none] rfl rfl rfl ?_ e4
 refine Tr.k [1,5,6,7,8] ?_
 refine Tr.w hcx [] _ [] rfl rfl rfl ?_ e4
 refine Tr.k [1,5,6,7,8] ?_
 refine ab hcx 2 (cl pC mX) ?_
 simp only[tr mX rfl]
 refine ab hcx 3 [.val (str bw),sl pC .no mX] ?_
 simp only[tu]
 refine ab hcx 4 [sl aC .no [(bw,mX)]] ?_
 simp only[tv]
 refine Tr.k [1,5,6,7,8] ?_
 refine ah hcx [0] ?_
 refine ab hcx 0 [sl vC .no [[(bw,mX)]]] ?_
 refine ah hcx [] ?_
 refine Tr.w hcx [1000139] [some 109,some 110,some 111,some 112,some 113,some 114,some 115,some 116,some 117,some 118,some 119,some 120,some 121,some 122,some 123,some 124,some 125,some 126,some 127,some 128,some 129,some 130,some 131,some 132,some 133,some 134,some 135,some 136,some 137,some 138,some 139,some 0] [] rfl rfl rfl ?_ e4
 refine Tr.k [0] ?_
 exact Tr.ret Ma
end Go.Sx
namespace Go.Sx
open Go.RowKit Go.Proofs
theorem ba {α:Type}[Inhabited α](l:List α)(i:Nat)(h:i< l.length):gt l i∈l:=by simp[gt,List.getD,List.getElem?_eq_getElem h]
theorem tw (w:aj):cB w=w.flatMap fun V=>V.flatMap (·.2):=by
 rw[lP];unfold pV pA;rw[List.take_length]
 congr 1;funext V;rw[List.take_length]
theorem uR {w:aj}{p:aN}:p∈cB w↔∃V,V∈w∧∃A,A∈V∧p∈A.2:=by
 rw[tw];simp only[List.mem_flatMap]
def PG (p:aN):Prop:=p.2.2.2.1.length≤1000000∧p.2.2.2.2.length≤1000000∧b9 p.1
structure WG (w:aj):Prop where
 n:w.length≤100000
 al: (cB w).length≤100000
 ar:nA w w.length≤1000000
 v:∀V,V∈w→V.length≤100000∧∀A,A∈V→A.1.length≤1000000∧A.2.length≤100000∧∀p,p∈A.2→PG p
theorem WG.wb {w:aj}(h:WG w):WB w:=by
 refine ⟨by have:=h.n;omega,fun v hv=>?_,fun v a hv ha=>?_⟩
 . have:=(h.v _ (ba w v hv)).1;omega
 . have:=((h.v _ (ba w v hv)).2 _ (ba _ a ha)).2.1;omega
theorem WG.pg {w:aj}(h:WG w){i:Nat}(hi:i< (aK w).length):PG (gt (aK w) i).2:=by
 rw[←lY w i hi]
 obtain ⟨V,hV,A,hA,hp⟩:=uR.1 (ba (cB w) i (by rw[e7];exact hi))
 exact ((h.v V hV).2 A hA).2.2 _ hp
theorem WG.ws {w:aj}(h:WG w):WS w:=⟨h.wb,by have:=h.al;rw[e7] at this;exact this,fun i hi=>(h.pg hi).2.1⟩
theorem WG.tx {w:aj}(h:WG w):∀i,i< (aK w).length→(gt (aK w) i).2.2.2.2.1.length≤1000000:=fun i hi=>(h.pg hi).1
theorem WG.id {w:aj}(h:WG w):∀i,i< (aK w).length→b9 (gt (aK w) i).2.1:=fun i hi=>(h.pg hi).2.2
theorem WG.tt {w:aj}(h:WG w):∀v a,v< w.length→a< (gt w v).length→(gt (gt w v) a).1.length≤1000000:=fun v a hv ha=>((h.v _ (ba w v hv)).2 _ (ba _ a ha)).1
def idk (k:Nat):ID:=(((0:Nat):Int),(k:Int),((0:Nat):Int))
theorem DS (p:aN)(j:Nat)(ps:List aN): (lQ p j ps).1=p.1:=by unfold lQ;split<;>rfl
theorem Og (p:aN)(j:Nat)(ps:List aN): (lQ p j ps).2.2=p.2.2:=by unfold lQ;split<;>rfl
theorem uS (l:List Int)(n:Nat):∀j,(eQ l n j).map (·.1) = (List.range' n j).map idk
 |0=>rfl
 |j+1=>by
  rw[eQ,List.map_append,uS l n j,List.range'_concat,List.map_append,Nat.one_mul]
  simp only[List.map_cons,List.map_nil,DS]
  rfl
theorem DT {α β:Type}(f:α→List β)(l:List α)(x:α): (l++[x]).flatMap f=l.flatMap f++f x:=by rw[List.flatMap_append];simp
theorem uT (l:List Int)(i n:Nat):∀k,n≤(dq l i n k).2∧(((dq l i n k).1.flatMap (·.2)).map (·.1)) = (List.range' n ((dq l i n k).2 - n)).map idk
 |0=>⟨Nat.le_refl _,by simp[dq]⟩
 |k+1=>by
  obtain ⟨h1,h2⟩:=uT l i n k
  refine ⟨Nat.le_trans h1 (Nat.le_add_right ..),?_⟩
  simp only[dq]
  rw[DT,List.map_append,h2,uS,←List.map_append]
  congr 1
  generalize (dq l i n k).2=m at h1
  have:=List.range'_append (s:=n) (m:=m - n) (n:=jc l i k m) (step:=1)
  rw[show n+1*(m - n) =m by omega] at this
  rw[this]
  congr 1;omega
theorem uU (l:List Int):∀i,(((dr l i).1.flatMap fun V=>V.flatMap (·.2)).map (·.1)) = (List.range' 0 (dr l i).2).map idk
 |0=>rfl
 |i+1=>by
  have h:=uT l i (dr l i).2 (1+bR l (1+i) 2)
  simp only[dr]
  rw[DT,List.map_append,uU l i,h.2,←List.map_append]
  congr 1
  have h1:=h.1
  generalize (dq l i (dr l i).2 (1+bR l (1+i) 2)).2=m at h1
  generalize (dr l i).2=n at h1
  have:=List.range'_append (s:=0) (m:=n) (n:=m - n) (step:=1)
  rw[show 0+1*n=n by omega] at this
  rw[this]
  congr 1;omega
theorem pQ (l:List Int):d4 (js l) = (List.range' 0 (dr l (1+bR l 0 4 / 3)).2).map idk:=by
 unfold d4;rw[tw];exact uU l _
theorem He {a b:Nat}(h:idk a=idk b):a=b:=by
 unfold idk at h
 have:=congrArg (fun x:ID=>x.2.1) h
 simp only[] at this;omega
theorem zz (l:List Int): (d4 (js l)).Nodup:=by
 rw[pQ]
 have h: (List.range' 0 (dr l (1+bR l 0 4 / 3)).2).Nodup:=List.nodup_range'
 generalize List.range' 0 (dr l (1+bR l 0 4 / 3)).2=r at h
 induction r with
 |nil=>exact List.nodup_nil
 |cons x r ih=>
  rw[List.nodup_cons] at h
  rw[List.map_cons,List.nodup_cons]
  refine ⟨fun hx=>?_,ih h.2⟩
  obtain ⟨y,hy,e⟩:=List.mem_map.1 hx
  rw[He e] at hy
  exact h.1 hy
theorem Mb (l:List Int): (cB (js l)).length≤8:=by
 have:=congrArg List.length (pQ l)
 unfold d4 at this
 rw[List.length_map,List.length_map,List.length_range'] at this
 rw[this];exact lS l _
theorem pR (l:List Int): (js l).length=1+bR l 0 4 / 3:=pO l _
end Go.Sx
namespace Go.Sx
open Go.RowKit Go.Proofs
set_option maxRecDepth 100000
set_option maxHeartbeats 8000000
end Go.Sx
namespace Go.Sx
open Go.RowKit Go.Proofs
theorem cz {x y:ID}:iD x=iD y↔x=y:=⟨fun h=>Inj.inj _ _ h,fun h=>by rw[h]⟩
theorem cA {x y:aN}:pC x=pC y↔x=y:=⟨fun h=>Inj.inj _ _ h,fun h=>by rw[h]⟩
section
variable {gl:Nat→C} {pu:Nat→List C→Option C}
noncomputable def wl (hgn:∀g,ag 0 (gl g) =true):Mk Tryd.prog gl 64 Unit where
 args:=fun _=>[]
 r:=fun _=> .agg [.gv 3 1 (1,46)]
 Y:=fun _=>[some [.gv 3 1 (1,46)],some (cl pC exPs),some [.val (str bw),.gv 1 3 (7,37)],some [.gv 2 1 (2,48)]]
 nr:=fun _=>rfl
 inj:=fun _ _ _=>⟨rfl,rfl⟩
 fc:=fun _=>Qc (M:=0) (pu:=fun _ _=>none) (CxOK.zero hgn)
noncomputable def CW (hgn:∀g,ag 0 (gl g) =true):Nat→List C→Hp→Option (C×Hp):=(wl hgn).tab (fun _ _ _=>none)
theorem Qp (hgn:∀g,ag 0 (gl g) =true)(h:CxOK (aS gl 0 pu)):CxOK (iy gl 0 pu (CW hgn)):=sZ (oK h) (wl hgn)
theorem Hf (hgn:∀g,ag 0 (gl g) =true):∀pre:Hp,OkH pre→CW hgn 64 [] pre=some (.agg [.gv (pre.length+3) 1 (1,46)],pre++[some [.gv (pre.length+3) 1 (1,46)],some (cl pC exPs),some [.val (str bw),.gv (pre.length+1) 3 (7,37)],some [.gv (pre.length+2) 1 (2,48)]]):=fun pre h=>by
 have e:=(wl hgn).look (fun _ _ _=>none) () pre h
 unfold CW
 refine e.trans ?_
 have e1:∀n,dn n ((wl hgn).Y ()) = [some [.gv (n+3) 1 (1,46)],some (cl pC exPs),some [.val (str bw),.gv (n+1) 3 (7,37)],some [.gv (n+2) 1 (2,48)]]:=fun n=>by
  show [_,_,_,_] =_
  simp only[Option.map_some,bkCs,bU,bks_nr _ _ (aF pC 0 exPs)]
 rw[e1]
 rfl
end
end Go.Sx
namespace Go.Sx
open Go.RowKit
end Go.Sx
namespace Go.Sx
open Go.RowKit Go.Proofs
set_option maxRecDepth 100000
set_option maxHeartbeats 8000000
def fV (n v0 m:Nat)(w:aj):List C:=(cl vC w).set v0 (.gv (n+1) m (2,48))
def fA (n a0 m:Nat)(V:bY):List C:=(cl aC V).set (a0*2+1) (.gv (n+2) m (7,37))
theorem kH {α:Type}(l:List α)(x y:α)(k i:Nat)(h:l.length=i): (l++[x]).set k y=if k=i then l++[y] else l.set k y++[x]:=by
 subst h
 rw[List.set_append]
 split
 . rename_i hk;rw[if_neg (by omega)]
 . rename_i hk
   split
   . rename_i e;subst e;rw[Nat.sub_self];rfl
   . rename_i e
     rw[List.set_eq_of_length_le (by omega:l.length≤k)]
     obtain ⟨d,hd⟩:∃d,k - l.length=d+1:=⟨k - l.length - 1,by omega⟩
     rw[hd];rfl
theorem rl {α:Type}[Inhabited α](f:α→List C)(l:List α)(i:Nat)(h:i< l.length):cl f (l.take (i+1)) =cl f (l.take i)++f (gt l i):=by
 rw[←eC l i h,iZ]
 congr 1
 rw[cS];simp[cl]
theorem Mc {n v0 m i:Nat}{w:aj}(h:i< w.length)(c:¬i=v0):fV n v0 m (w.take i)++[sl aC .no (gt w i)] =fV n v0 m (w.take (i+1)):=by
 unfold fV
 rw[rl vC w i h]
 show _= (cl vC (w.take i)++[sl aC .no (gt w i)]).set v0 _
 rw[kH _ _ _ _ i (by rw[aw (f:=vC),List.length_take];omega),if_neg (fun e=>c e.symm)]
theorem Md {n m i:Nat}{w:aj}(h:i< w.length):fV n i m (w.take i)++[.gv (n+1) m (2,48)] =fV n i m (w.take (i+1)):=by
 unfold fV
 rw[rl vC w i h]
 show _= (cl vC (w.take i)++[sl aC .no (gt w i)]).set i _
 rw[kH _ _ _ _ i (by rw[aw (f:=vC),List.length_take];omega),if_pos rfl,List.set_eq_of_length_le (by rw[aw (f:=vC),List.length_take];omega)]
theorem Me {n a0 m i:Nat}{V:bY}(h:i< V.length)(c:¬i=a0):fA n a0 m (V.take i)++[.val (str (gt V i).1),sl pC .no (gt V i).2] =fA n a0 m (V.take (i+1)):=by
 unfold fA
 rw[rl aC V i h]
 show _= (cl aC (V.take i)++([C.val (str (gt V i).1)]++[sl pC .no (gt V i).2])).set (a0*2+1) _
 have hl: (cl aC (V.take i)).length=i*2:=by rw[aw (f:=aC),List.length_take];omega
 rw[←List.append_assoc,kH _ _ _ _ (i*2+1) (by rw[List.length_append,hl];rfl),if_neg (by omega)]
 rw[List.set_append]
 split
 . rw[List.append_assoc];rfl
 . rename_i q
   rw[List.set_eq_of_length_le (l:=[C.val (str (gt V i).1)]) (by show 1≤_;omega),List.set_eq_of_length_le (by omega),List.append_assoc];rfl
theorem Mf {n m i:Nat}{V:bY}(h:i< V.length):fA n i m (V.take i)++[.val (str (gt V i).1),.gv (n+2) m (7,37)] =fA n i m (V.take (i+1)):=by
 unfold fA
 rw[rl aC V i h]
 show _= (cl aC (V.take i)++([C.val (str (gt V i).1)]++[sl pC .no (gt V i).2])).set (i*2+1) _
 have hl: (cl aC (V.take i)).length=i*2:=by rw[aw (f:=aC),List.length_take];omega
 rw[←List.append_assoc,kH _ _ _ _ (i*2+1) (by rw[List.length_append,hl];rfl),if_pos rfl,List.set_eq_of_length_le (by omega),List.append_assoc]
 rfl
def bV (n v0 a0 m:Nat)(w:aj)(i:Nat):List C:=if i≤v0 then [] else fA n a0 m (gt w v0)
def bA (v0 a0:Nat)(w:aj)(i:Nat):List C:=if i≤v0 then [] else cl pC (gt (gt w v0) a0).2
def bL (a0:Nat)(V:bY)(k:Nat):List C:=if k≤a0 then [] else cl pC (gt V a0).2
theorem Mg {n v0 a0 m i:Nat}{w:aj}(c:¬i=v0):bV n v0 a0 m w (i+1) =bV n v0 a0 m w i:=by
 unfold bV
 by_cases h:i≤v0
 . rw[if_pos (by omega),if_pos h]
 . rw[if_neg (by omega),if_neg h]
theorem Mh {v0 a0 i:Nat}{w:aj}(c:¬i=v0):bA v0 a0 w (i+1) =bA v0 a0 w i:=by
 unfold bA
 by_cases h:i≤v0
 . rw[if_pos (by omega),if_pos h]
 . rw[if_neg (by omega),if_neg h]
theorem Mi {a0 k:Nat}{V:bY}(c:¬k=a0):bL a0 V (k+1) =bL a0 V k:=by
 unfold bL
 by_cases h:k≤a0
 . rw[if_pos (by omega),if_pos h]
 . rw[if_neg (by omega),if_neg h]
theorem Qq {n i a0 m:Nat}{w:aj}:bV n i a0 m w i= []:=if_pos (Nat.le_refl _)
theorem Qr {i a0:Nat}{w:aj}:bA i a0 w i= []:=if_pos (Nat.le_refl _)
theorem Qs {k:Nat}{V:bY}:bL k V k= []:=if_pos (Nat.le_refl _)
theorem Qt {n i a0 m:Nat}{w:aj}:bV n i a0 m w (i+1) =fA n a0 m (gt w i):=if_neg (by omega)
theorem Qu {i a0:Nat}{w:aj}:bA i a0 w (i+1) =cl pC (gt (gt w i) a0).2:=if_neg (by omega)
theorem Qv {k:Nat}{V:bY}:bL k V (k+1) =cl pC (gt V k).2:=if_neg (by omega)
theorem CX (x:aN)(l:List ID):qA (pC x) 6 (sl iD (.own 3) l) =some ((pC x).set 6 (sl iD (.own 3) l),.val undef):=rfl
theorem pS (x:aN)(c:C): ((pC x).set 6 c).set 6 (sl iD .no x.2.2.2.2) =pC x:=rfl
theorem Hg (u:TypeDesc)(y:Nat)(t:List UInt8)(b n:Nat)(s:Nat×Nat):fE (some ⟨u,2,y,[str [],.slice none 0 0]⟩) 1 [(0,.agg [.val (str t),.gv b n s])] =some (vp (.sl .full 1 [.val (str t),.gv b n s])):=rfl
theorem Hh (u:TypeDesc)(y:Nat)(b n:Nat)(s:Nat×Nat):fE (some ⟨u,1,y,[.slice none 0 0]⟩) 1 [(0,.agg [.gv b n s])] =some (vp (.sl .full 1 [.gv b n s])):=rfl
attribute [go_sem high] CX Hg Hh
theorem Mj (u:TypeDesc)(b n:Nat)(x y:C)(h:n≤1000000):mT 48 (some ⟨u,2,40,[str [],.slice none 0 0]⟩) (.gv b n (2,48)) (.sl .full 1 [x,y]) =some (.ap (some (b,n)) (2,48) 1 fun _=>some [x,y]):=by
 simp only[mT,if_true,io,C.sl?]
 rw[if_pos]
 simp only[decide_eq_true_eq]
 exact ⟨rfl,by decide,rfl,by omega,by omega,rfl⟩
theorem Ml (u:TypeDesc)(b n:Nat)(x:C)(h:n≤1000000):mT 46 (some ⟨u,1,24,[.slice none 0 0]⟩) (.gv b n (1,46)) (.sl .full 1 [x]) =some (.ap (some (b,n)) (1,46) 1 fun _=>some [x]):=by
 simp only[mT,if_true,io,C.sl?]
 rw[if_pos]
 simp only[decide_eq_true_eq]
 exact ⟨rfl,by decide,rfl,by omega,by omega,rfl⟩
theorem kI {l:List C}(h:aQ (some l) =some l)(i b n:Nat)(s:Nat×Nat):aQ (some (l.set i (.gv b n s))) =some (l.set i (.gv b n s)):=by
 cases l with
 |nil=>rfl
 |cons x l=>
  cases i with
  |zero=>rfl
  |succ i=>
   cases x with
   |tup xs=>cases h
   |_=>rfl
theorem pT (n v0 m:Nat)(w:aj):aQ (some (fV n v0 m w)) =some (fV n v0 m w):=kI (gn vC w) ..
theorem uV (n v0 m:Nat)(w:bY):aQ (some (fA n v0 m w)) =some (fA n v0 m w):=kI (gn aC w) ..
theorem zB (n v0 m:Nat)(w:aj): (fV n v0 m w).map C.noR=fV n v0 m w:=by unfold fV;rw[List.map_set,eF];rfl
theorem zC (n v0 m:Nat)(w:bY): (fA n v0 m w).map C.noR=fA n v0 m w:=by unfold fA;rw[List.map_set,eF];rfl
theorem tz (n v0 m:Nat)(w:aj): (fV n v0 m w).length=w.length:=by unfold fV;rw[List.length_set,aw (f:=vC),Nat.mul_one]
theorem zD (n v0 m:Nat)(w:bY): (fA n v0 m w).length=w.length*2:=by unfold fA;rw[List.length_set,aw (f:=aC)]
theorem jZ (ρ:List Nat)(x:C):∀ (l:List C)(i:Nat),mvCs ρ (l.set i x) = (mvCs ρ l).set i (aY ρ x)
 | [],_=>rfl
 |y::l,0=>rfl
 |y::l,i+1=>by simp only[List.set_cons_succ,mvCs,jZ ρ x l i]
theorem rm {ρ:List Nat}{n v0 m:Nat}{w:aj}(h:∀m,aY ρ (.gv (n+1) m (2,48)) = .gv (n+1) m (2,48)):mvCs ρ (fV n v0 m w) =fV n v0 m w:=by unfold fV;rw[jZ,en,h]
theorem oU {ρ:List Nat}{n v0 m:Nat}{w:bY}(h:∀m,aY ρ (.gv (n+2) m (7,37)) = .gv (n+2) m (7,37)):mvCs ρ (fA n v0 m w) =fA n v0 m w:=by unfold fA;rw[jZ,en,h]
theorem wm {ρ:List Nat}{n v0 a0 m i:Nat}{w:aj}(h:∀m,aY ρ (.gv (n+2) m (7,37)) = .gv (n+2) m (7,37)):mvCs ρ (bV n v0 a0 m w i) =bV n v0 a0 m w i:=by unfold bV;split;rfl;exact oU h
theorem wn {ρ:List Nat}{v0 a0 i:Nat}{w:aj}:mvCs ρ (bA v0 a0 w i) =bA v0 a0 w i:=by unfold bA;split;rfl;exact en ..
theorem wo {ρ:List Nat}{a0 i:Nat}{w:bY}:mvCs ρ (bL a0 w i) =bL a0 w i:=by unfold bL;split;rfl;exact en ..
theorem zE (n i m:Nat)(w:aj):fV n i m (w.take i) =cl vC (w.take i):=by
 unfold fV;rw[List.set_eq_of_length_le];rw[aw (f:=vC),List.length_take];omega
theorem zF (n i m:Nat)(w:bY):fA n i m (w.take i) =cl aC (w.take i):=by
 unfold fA;rw[List.set_eq_of_length_le];rw[aw (f:=aC),List.length_take];omega
theorem kJ (k:Nat)(x:C)(hx:ag k x=true):∀ (l:List C)(i:Nat),noRefs k l=true→noRefs k (l.set i x) =true
 | [],_,h=>h
 |y::l,0,h=>by simp only[List.set_cons_zero,noRefs,Bool.and_eq_true] at h ⊢;exact ⟨hx,h.2⟩
 |y::l,i+1,h=>by simp only[List.set_cons_succ,noRefs,Bool.and_eq_true] at h ⊢;exact ⟨h.1,kJ k x hx l i h.2⟩
section
variable (cx:Cx) (apps:List Nat) (dsts:List (Option Nat)) (l:List Oper) (id':Nat) (d:Option Nat) (e:List (Nat×C)) (h:Hp) (fs:List FP) (K:List FP→St→Prop)
theorem kK (b n m k e':Nat)(cells cs:List C)(h1:cells.map C.noR=cells)(h2:cs.map C.noR=cs)(hn:n*k=cells.length)(hm:0< m)(hk:0< k):
 gf cx apps dsts l id' d e h fs K b n (k,e') m cs (some cells) =run cx apps dsts l id' (dU d (.gv h.length (n+m) (k,e')) e) (h.set b (some cO)++[some (cells++cs)]) ((4,0)::fs) K:=by
 have hml:k≤m*k:=by
  have:=Nat.mul_le_mul_right k (show 1≤m by omega)
  omega
 unfold gf
 simp only[]
 rw[if_neg (by rw[←hn,Nat.add_mul];omega),if_pos hn,List.map_append,h1,h2]
theorem CY (b n:Nat)(V:bY)(t:List UInt8)(b' n':Nat)(s':Nat×Nat)(hn:n*2= (cl aC V).length):gf cx apps dsts l id' d e h fs K b n (2,48) 1 [.val (str t),.gv b' n' s'] (some (cl aC V)) =run cx apps dsts l id' (dU d (.gv h.length (n+1) (2,48)) e) (h.set b (some cO)++[some (cl aC V++[.val (str t),.gv b' n' s'])]) ((4,0)::fs) K:=
 kK cx apps dsts l id' d e h fs K b n 1 2 48 _ _ (eF ..) rfl hn (by decide) (by decide)
theorem CZ (b n:Nat)(V:aj)(b' n':Nat)(s':Nat×Nat)(hn:n*1= (cl vC V).length):gf cx apps dsts l id' d e h fs K b n (1,46) 1 [.gv b' n' s'] (some (cl vC V)) =run cx apps dsts l id' (dU d (.gv h.length (n+1) (1,46)) e) (h.set b (some cO)++[some (cl vC V++[.gv b' n' s'])]) ((4,0)::fs) K:=
 kK cx apps dsts l id' d e h fs K b n 1 1 46 _ _ (eF ..) rfl hn (by decide) (by decide)
theorem C0 (b n:Nat)(n0 a0 m0:Nat)(V:bY)(x:fH)(hn:n*2= (fA n0 a0 m0 V).length):gf cx apps dsts l id' d e h fs K b n (2,48) 1 (cl aC [x]) (some (fA n0 a0 m0 V)) =run cx apps dsts l id' (dU d (.gv h.length (n+1) (2,48)) e) (h.set b (some cO)++[some (fA n0 a0 m0 V++[.val (str x.1),sl pC .no x.2])]) ((4,0)::fs) K:=
 kK cx apps dsts l id' d e h fs K b n 1 2 48 _ _ (zC ..) rfl hn (by decide) (by decide)
theorem C1 (b n:Nat)(n0 a0 m0:Nat)(V:aj)(x:bY)(hn:n*1= (fV n0 a0 m0 V).length):gf cx apps dsts l id' d e h fs K b n (1,46) 1 (cl vC [x]) (some (fV n0 a0 m0 V)) =run cx apps dsts l id' (dU d (.gv h.length (n+1) (1,46)) e) (h.set b (some cO)++[some (fV n0 a0 m0 V++[sl aC .no x])]) ((4,0)::fs) K:=
 kK cx apps dsts l id' d e h fs K b n 1 1 46 _ _ (zB ..) rfl hn (by decide) (by decide)
end
theorem jf (ρ:List Nat)(r:List C):∀l:List C,mvCs ρ (l++r) =mvCs ρ l++mvCs ρ r
 | [] =>rfl
 |x::l=>by simp only[List.cons_append,mvCs,jf ρ r l]
theorem Oh (t:List UInt8)(n:Nat):mvCs [0,7,2,3,4,5] [.val (str t),.gv 2 n (7,37)] = [.val (str t),.gv 2 n (7,37)]:=rfl
theorem Oi (t:List UInt8)(l:List aN):mvCs [0,7,2,3,4,5] [.val (str t),sl pC .no l] = [.val (str t),sl pC .no l]:=by simp only[mvCs,lB,aY]
theorem Oj (n:Nat):mvCs [6,1,2,3,4] [.gv 1 n (2,48)] = [.gv 1 n (2,48)]:=rfl
theorem Ok (l:bY):mvCs [6,1,2,3,4] [sl aC .no l] = [sl aC .no l]:=by simp only[mvCs,lB]
theorem Mm (a0:Nat)(V:bY):bL a0 V V.length=cl pC (gt V a0).2:=by
 unfold bL
 split
 . rename_i h
   have:gt V a0=default:=by unfold gt List.getD;rw[List.getElem?_eq_none h];rfl
   rw[this];rfl
 . rfl
theorem Mn (n v0 a0 m:Nat)(w:aj):bV n v0 a0 m w w.length=fA n a0 m (gt w v0):=by
 unfold bV
 split
 . rename_i h
   have:gt w v0=default:=by unfold gt List.getD;rw[List.getElem?_eq_none h];rfl
   rw[this];rfl
 . rfl
theorem Mo (v0 a0:Nat)(w:aj):bA v0 a0 w w.length=cl pC (gt (gt w v0) a0).2:=by
 unfold bA
 split
 . rename_i h
   have:gt w v0=default:=by unfold gt List.getD;rw[List.getElem?_eq_none h];rfl
   rw[this];rfl
 . rfl
attribute [go_sem] pT uV zB zC tz zD Mj Ml CY CZ C0 C1
theorem aT {p:Prop}(e:p:=by intro KZ hZ;simp -implicitDefEqProofs (maxSteps:=2000000) (disch:=first|omega| (simp only[go_sem,lA,lD,lT,hVl,hLl,hwl,List.length_take] <;>omega) |decide) only[go_sem,↓reduceIte,Nat.reduceEqDiff,reduceCtorEq,Nat.reduceLT,Nat.reduceBEq,Nat.reduceAdd,hVx,hLx,c1,c2,hy];with_reducible exact hZ):p:=e
theorem Hi {p:Prop}(e:p:=by simp -implicitDefEqProofs (disch:=first|omega| (simp only[go_sem,lA,lD,lT,hVl,hLl,hwl,List.length_take] <;>omega) |decide) only[go_sem,↓reduceIte,Nat.reduceEqDiff,reduceCtorEq];all_goals (rfl)):p:=e
theorem DU {gl:Nat→C}{M:Nat}{pu:Nat→List C→Option C}(hcx:CxOK (aS gl M pu))(w:aj)(v0 a0:Nat)(hw:WG w):FC Tryd.prog gl 20 [.agg [sl vC .no w]] [] (.agg [.gv 0 w.length (1,46)]) [some (fV 0 v0 (gt w v0).length w),some (fA 0 a0 (gt (gt w v0) a0).2.length (gt w v0)),some (cl pC (gt (gt w v0) a0).2),some [.gv 0 w.length (1,46)]]:=by
 replace hcx:=hcx.reN (M:=87)
 refine yF (cx:=aS gl 87 pu) (rs:=[.cell 2 29]) rfl Tryd.func20 rfl rfl rfl (by simp only[List.length_cons,List.length_nil];decide) ?_
 simp only[dm,go_sem]
 have c1:=True.intro
 have c2:=True.intro
 have hy:=True.intro
 have hwl:=hw.n
 have hVx:=True.intro
 have hLx:=True.intro
 have hVl:=True.intro
 have hLl:=True.intro
 refine Tr.w hcx [] _ [none,none] rfl rfl rfl ?_ aT
 refine ab hcx 0 [sl vC .no w] ?_
 refine Tr.w hcx [] _ [none] rfl rfl rfl ?_ aT
 refine af fun K1 hK1=>?_
 refine Tr.w hcx [] _ [] rfl rfl rfl ?_ aT
 refine Tr.k [1,2,3,4] ?_
 refine ax ?_
 refine Tr.k [1,2,3,4] ?_
 refine ah hcx [1,2] ?_
 refine Tr.virt ?_
 refine Tr.virt ?_
 refine Tr.virt ?_
 simp only[List.cons_append,List.nil_append]
 refine Tr.bxc 1 0 (.gv 2 0 (1,46)) _ rfl rfl (nv ..) rfl ?_
 simp only[List.set_cons_succ,List.set_cons_zero]
 refine ah hcx [2,3,4,0,1] ?_
 refine bz (α:=Nat) (fun a=>[(1,?v1_1),(2,?v2_1),(3,?v3_1),(4,.val (nI a))]) (fun a=>[some (fV 0 v0 (gt w v0).length (w.take a)),some (bV 0 v0 a0 (gt (gt w v0) a0).2.length w a),some (bA v0 a0 w a),some [.val (.slice none 0 0)],some [.gv 0 a (1,46)]]) (fun a=>a≤w.length) (fun a=>w.length - a) (0) (Nat.zero_le _) ?le_1 ?hh_1 ?bd_1
 case hh_1=>exact rfl
 case le_1=>exact LT
 rintro i hi
 refine af fun K2 hK2=>?_
 refine Tr.w hcx [] _ [] rfl rfl rfl ?_ aT
 refine bc rfl (fun hc15=>?_) (fun hc15=>?_)
 ·
  obtain ⟨V,hV⟩:∃V,gt w i=V:=⟨_,rfl⟩
  have hVx:=hV
  have hwv:=(hw.v _ (ba w i hc15))
  rw[hV] at hwv
  have hVl:=hwv.1
  refine Tr.skip ?_
  refine hK2 _ ?_
  refine af fun K3 hK3=>?_
  refine ax ?_
  by_cases c1:i=v0
  ·
   subst c1
   have c1:=True.intro
   simp only[Qq,Qr,zE,hV]
   refine Tr.w hcx [] _ [none] rfl rfl rfl ?_ aT
   refine af fun K4 hK4=>?_
   refine Tr.w hcx [] _ [] rfl rfl rfl ?_ aT
   refine Tr.k [1,2,3,4,5,6] ?_
   refine ax ?_
   refine Tr.bxc 5 0 (.gv 1 0 (2,48)) _ rfl rfl (nv ..) rfl ?_
   simp only[List.set_cons_succ,List.set_cons_zero]
   refine bz (α:=Nat) (fun a=>[(1,?v1_2),(2,?v2_2),(3,?v3_2),(4,?v4_2),(5,?v5_2),(6,.val (nI a))]) (fun a=>[some (cl vC (w.take i)),some (fA 0 a0 (gt V a0).2.length (V.take a)),some (bL a0 V a),some [.val (.slice none 0 0)],some [.gv 0 i (1,46)],some [.gv 1 a (2,48)]]) (fun a=>a≤V.length) (fun a=>V.length - a) (0) (Nat.zero_le _) ?le_2 ?hh_2 ?bd_2
   case hh_2=>exact rfl
   case le_2=>exact LT
   rintro k hk
   refine af fun K5 hK5=>?_
   refine Tr.w hcx [] _ [] rfl rfl rfl ?_ aT
   refine bc rfl (fun hc26=>?_) (fun hc26=>?_)
   ·
    obtain ⟨L,hL⟩:∃L,(gt V k).2=L:=⟨_,rfl⟩
    have hLx:=hL
    have hwa:=hwv.2 _ (ba V k hc26)
    rw[hL] at hwa
    have hLl:=hwa.2.1
    refine Tr.skip ?_
    refine hK5 _ ?_
    refine Tr.k [1,2,3,4,5,6] ?_
    refine af fun K6 hK6=>?_
    refine ax ?_
    by_cases c2:k=a0
    ·
     subst c2
     have c2:=True.intro
     simp only[Qs,zF,hL]
     skip
     refine Tr.w hcx [] _ [none] rfl rfl rfl ?_ aT
     refine Tr.k [1,2,3,4,5,6,7] ?_
     refine Tr.w hcx [1000049] _ [] rfl rfl rfl ?_ aT
     refine af fun K7 hK7=>?_
     refine Tr.w hcx [] _ [] rfl rfl rfl ?_ aT
     refine Tr.k [1,2,3,4,5,6,7,8,9] ?_
     refine ax ?_
     refine Tr.bxc 6 1 (.gv 2 0 (7,37)) _ rfl rfl (nv ..) rfl ?_
     simp only[List.set_cons_succ,List.set_cons_zero]
     refine bz (α:=Nat) (fun a=>[(1,?v1_3),(2,?v2_3),(3,?v3_3),(4,?v4_3),(5,?v5_3),(6,?v6_3),(7,?v7_3),(8,?v8_3),(9,.val (nI a))]) (fun a=>[some (cl vC (w.take i)),some (cl aC (V.take k)),some (cl pC (L.take a)),some [.val (.slice none 0 0)],some [.gv 0 i (1,46)],some [.gv 1 k (2,48)],some [.val (str (gt V k).1),.gv 2 a (7,37)]]) (fun a=>a≤L.length) (fun a=>L.length - a) (0) (Nat.zero_le _) ?le_3 ?hh_3 ?bd_3
     case hh_3=>exact rfl
     case le_3=>exact LT
     rintro j hj
     refine af fun K8 hK8=>?_
     refine Tr.w hcx [] _ [] rfl rfl rfl ?_ aT
     refine bc rfl (fun hc53=>?_) (fun hc53=>?_)
     ·
      have hPg:=(hwa.2.2 _ (ba L j hc53)).2.1
      refine Tr.skip ?_
      refine hK8 _ ?_
      refine af fun K9 hK9=>?_
      refine ax ?_
      refine Tr.w hcx [] _ [none] rfl rfl rfl ?_ aT
      refine Tr.w hcx [60] _ [] rfl rfl rfl ?_ aT
      refine Tr.k [1,2,3,4,5,6,7,8,9,10] ?_
      refine Tr.bxc 7 6 (sl iD .no (gt L j).2.2.2.2) ((pC (gt L j)).set 6 (sl iD (.own 3) (gt L j).2.2.2.2)) rfl rfl (CLe.noR (sl iD (.own 3) _)) rfl ?_
      simp only[pS]
      simp only[List.set_cons_succ,List.set_cons_zero]
      refine ov hcx [72] [69] _ [] rfl rfl rfl ?_ aT
      refine hK9 _ ?_
      refine Tr.k [1,2,3,4,5,6,7,8,9] ?_
      refine ah hcx [0,1,8,3,4,5,6] ?_
      refine Tr.v hcx [1000055] _ [] rfl rfl rfl ?_ aT
      exact ⟨j+1,⟨(by omega),O1⟩,LT,by simp only[eC L _ hc53,List.length_take,Nat.min_eq_left (show j+1≤L.length by omega)]⟩
     refine Tr.exit ?_
     refine hK7 _ ?_
     obtain rfl:j=L.length:=by omega
     rw[List.take_length]
     refine ov hcx [78] [75] _ [] rfl rfl rfl ?_ aT
     refine hK6 _ ?_
     refine Tr.k [1,2,3,4,5,6] ?_
     refine ah hcx [0,7,2,3,4,5] ?_
     simp only[jf,en,Oh]
     refine Tr.v hcx [1000028] _ [] rfl rfl rfl ?_ aT
     exact ⟨k+1,⟨(by omega),O1⟩,LT,by simp only[←Mf hc26,Qv,zF,hLx] <;>rfl⟩
    skip
    skip
    refine Tr.w hcx [] _ [none] rfl rfl rfl ?_ aT
    refine Tr.k [1,2,3,4,5,6,7] ?_
    refine Tr.w hcx [1000049] _ [] rfl rfl rfl ?_ aT
    refine af fun K10 hK10=>?_
    refine Tr.w hcx [] _ [] rfl rfl rfl ?_ aT
    refine Tr.k [1,2,3,4,5,6,7,8,9] ?_
    refine ax ?_
    refine Tr.bxc 6 1 (sl pC (.own 7) []) _ rfl rfl (bS rfl) rfl ?_
    simp only[List.set_cons_succ,List.set_cons_zero]
    refine bz (α:=Nat) (fun a=>[(1,?v1_4),(2,?v2_4),(3,?v3_4),(4,?v4_4),(5,?v5_4),(6,?v6_4),(7,?v7_4),(8,?v8_4),(9,.val (nI a))]) (fun a=>[some (cl vC (w.take i)),some (fA 0 a0 (gt V a0).2.length (V.take k)),some (bL a0 V k),some [.val (.slice none 0 0)],some [.gv 0 i (1,46)],some [.gv 1 k (2,48)],some [.val (str (gt V k).1),sl pC (.own 7) (L.take a)]]) (fun a=>a≤L.length) (fun a=>L.length - a) (0) (Nat.zero_le _) ?le_4 ?hh_4 ?bd_4
    case hh_4=>exact rfl
    case le_4=>exact LT
    rintro j hj
    refine af fun K11 hK11=>?_
    refine Tr.w hcx [] _ [] rfl rfl rfl ?_ aT
    refine bc rfl (fun hc53=>?_) (fun hc53=>?_)
    ·
     have hPg:=(hwa.2.2 _ (ba L j hc53)).2.1
     refine Tr.skip ?_
     refine hK11 _ ?_
     refine af fun K12 hK12=>?_
     refine ax ?_
     refine Tr.w hcx [] _ [none] rfl rfl rfl ?_ aT
     refine Tr.w hcx [60] _ [] rfl rfl rfl ?_ aT
     refine Tr.k [1,2,3,4,5,6,7,8,9,10] ?_
     refine Tr.bxc 7 6 (sl iD .no (gt L j).2.2.2.2) ((pC (gt L j)).set 6 (sl iD (.own 3) (gt L j).2.2.2.2)) rfl rfl (CLe.noR (sl iD (.own 3) _)) rfl ?_
     simp only[pS]
     simp only[List.set_cons_succ,List.set_cons_zero]
     refine Tr.v hcx [69] _ [] rfl rfl rfl ?_ aT
     refine hK12 _ ?_
     refine Tr.k [1,2,3,4,5,6,7,8,9] ?_
     refine ah hcx [0,1,2,3,4,5,6] ?_
     simp only[oU (ρ:=[0,1,2,3,4,5,6]) (n:=0) (fun _=>rfl),wo (ρ:=[0,1,2,3,4,5,6])]
     refine Tr.v hcx [1000055] _ [] rfl rfl rfl ?_ aT
     exact ⟨j+1,⟨(by omega),O1⟩,LT,by simp only[←eC L _ hc53] <;>rfl⟩
    refine Tr.exit ?_
    refine hK10 _ ?_
    obtain rfl:j=L.length:=by omega
    rw[List.take_length]
    refine ov hcx [78] [75] _ [] rfl rfl rfl ?_ aT
    refine hK6 _ ?_
    refine Tr.k [1,2,3,4,5,6] ?_
    refine ah hcx [0,7,2,3,4,5] ?_
    simp only[jf,Oi,wo,oU (ρ:=[0,7,2,3,4,5]) (n:=0) (fun _=>rfl)]
    refine Tr.v hcx [1000028] _ [] rfl rfl rfl ?_ aT
    exact ⟨k+1,⟨(by omega),O1⟩,LT,by simp only[←Me hc26 c2,Mi c2,hLx] <;>rfl⟩
   refine Tr.exit ?_
   refine hK4 _ ?_
   obtain rfl:k=V.length:=by omega
   rw[List.take_length]
   refine ov hcx [84] [81] _ [] rfl rfl rfl ?_ aT
   refine hK3 _ ?_
   refine Tr.k [1,2,3,4] ?_
   refine ah hcx [6,1,2,3,4] ?_
   simp only[jf,en,Oj,wo,oU (ρ:=[6,1,2,3,4]) (n:=0) (fun _=>rfl)]
   refine Tr.v hcx [1000017] _ [] rfl rfl rfl ?_ aT
   exact ⟨i+1,⟨(by omega),O1⟩,LT,by simp only[←Md hc15,Qt,Qu,zE,Mm,hVx] <;>rfl⟩
  skip
  refine Tr.w hcx [] _ [none] rfl rfl rfl ?_ aT
  refine af fun K13 hK13=>?_
  refine Tr.w hcx [] _ [] rfl rfl rfl ?_ aT
  refine Tr.k [1,2,3,4,5,6] ?_
  refine ax ?_
  refine Tr.bxc 5 0 (sl aC (.own 2) []) _ rfl rfl (bS rfl) rfl ?_
  simp only[List.set_cons_succ,List.set_cons_zero]
  refine bz (α:=Nat) (fun a=>[(1,?v1_5),(2,?v2_5),(3,?v3_5),(4,?v4_5),(5,?v5_5),(6,.val (nI a))]) (fun a=>[some (fV 0 v0 (gt w v0).length (w.take i)),some (bV 0 v0 a0 (gt (gt w v0) a0).2.length w i),some (bA v0 a0 w i),some [.val (.slice none 0 0)],some [.gv 0 i (1,46)],some [sl aC (.own 2) (V.take a)]]) (fun a=>a≤V.length) (fun a=>V.length - a) (0) (Nat.zero_le _) ?le_5 ?hh_5 ?bd_5
  case hh_5=>exact rfl
  case le_5=>exact LT
  rintro k hk
  refine af fun K14 hK14=>?_
  refine Tr.w hcx [] _ [] rfl rfl rfl ?_ aT
  refine bc rfl (fun hc26=>?_) (fun hc26=>?_)
  ·
   obtain ⟨L,hL⟩:∃L,(gt V k).2=L:=⟨_,rfl⟩
   have hLx:=hL
   have hwa:=hwv.2 _ (ba V k hc26)
   rw[hL] at hwa
   have hLl:=hwa.2.1
   refine Tr.skip ?_
   refine hK14 _ ?_
   refine Tr.k [1,2,3,4,5,6] ?_
   refine af fun K15 hK15=>?_
   refine ax ?_
   have c2:=True.intro
   refine Tr.w hcx [] _ [none] rfl rfl rfl ?_ aT
   refine Tr.k [1,2,3,4,5,6,7] ?_
   refine Tr.w hcx [1000049] _ [] rfl rfl rfl ?_ aT
   refine af fun K16 hK16=>?_
   refine Tr.w hcx [] _ [] rfl rfl rfl ?_ aT
   refine Tr.k [1,2,3,4,5,6,7,8,9] ?_
   refine ax ?_
   refine Tr.bxc 6 1 (sl pC (.own 7) []) _ rfl rfl (bS rfl) rfl ?_
   simp only[List.set_cons_succ,List.set_cons_zero]
   refine bz (α:=Nat) (fun a=>[(1,?v1_6),(2,?v2_6),(3,?v3_6),(4,?v4_6),(5,?v5_6),(6,?v6_6),(7,?v7_6),(8,?v8_6),(9,.val (nI a))]) (fun a=>[some (fV 0 v0 (gt w v0).length (w.take i)),some (bV 0 v0 a0 (gt (gt w v0) a0).2.length w i),some (bA v0 a0 w i),some [.val (.slice none 0 0)],some [.gv 0 i (1,46)],some [sl aC (.own 2) (V.take k)],some [.val (str (gt V k).1),sl pC (.own 7) (L.take a)]]) (fun a=>a≤L.length) (fun a=>L.length - a) (0) (Nat.zero_le _) ?le_6 ?hh_6 ?bd_6
   case hh_6=>exact rfl
   case le_6=>exact LT
   rintro j hj
   refine af fun K17 hK17=>?_
   refine Tr.w hcx [] _ [] rfl rfl rfl ?_ aT
   refine bc rfl (fun hc53=>?_) (fun hc53=>?_)
   ·
    have hPg:=(hwa.2.2 _ (ba L j hc53)).2.1
    refine Tr.skip ?_
    refine hK17 _ ?_
    refine af fun K18 hK18=>?_
    refine ax ?_
    refine Tr.w hcx [] _ [none] rfl rfl rfl ?_ aT
    refine Tr.w hcx [60] _ [] rfl rfl rfl ?_ aT
    refine Tr.k [1,2,3,4,5,6,7,8,9,10] ?_
    refine Tr.bxc 7 6 (sl iD .no (gt L j).2.2.2.2) ((pC (gt L j)).set 6 (sl iD (.own 3) (gt L j).2.2.2.2)) rfl rfl (CLe.noR (sl iD (.own 3) _)) rfl ?_
    simp only[pS]
    simp only[List.set_cons_succ,List.set_cons_zero]
    refine Tr.v hcx [69] _ [] rfl rfl rfl ?_ aT
    refine hK18 _ ?_
    refine Tr.k [1,2,3,4,5,6,7,8,9] ?_
    refine ah hcx [0,1,2,3,4,5,6] ?_
    simp only[rm (ρ:=[0,1,2,3,4,5,6]) (n:=0) (fun _=>rfl),wm (ρ:=[0,1,2,3,4,5,6]) (n:=0) (fun _=>rfl),wn (ρ:=[0,1,2,3,4,5,6])]
    refine Tr.v hcx [1000055] _ [] rfl rfl rfl ?_ aT
    exact ⟨j+1,⟨(by omega),O1⟩,LT,by simp only[←eC L _ hc53] <;>rfl⟩
   refine Tr.exit ?_
   refine hK16 _ ?_
   obtain rfl:j=L.length:=by omega
   rw[List.take_length]
   refine Tr.v hcx [75] _ [] rfl rfl rfl ?_ aT
   refine hK15 _ ?_
   refine Tr.k [1,2,3,4,5,6] ?_
   refine ah hcx [0,1,2,3,4,5] ?_
   simp only[rm (ρ:=[0,1,2,3,4,5]) (n:=0) (fun _=>rfl),wm (ρ:=[0,1,2,3,4,5]) (n:=0) (fun _=>rfl),wn (ρ:=[0,1,2,3,4,5])]
   refine Tr.v hcx [1000028] _ [] rfl rfl rfl ?_ aT
   exact ⟨k+1,⟨(by omega),O1⟩,LT,by simp only[←eC V _ hc26,←hL] <;>rfl⟩
  refine Tr.exit ?_
  refine hK13 _ ?_
  obtain rfl:k=V.length:=by omega
  rw[List.take_length]
  refine ov hcx [84] [81] _ [] rfl rfl rfl ?_ aT
  refine hK3 _ ?_
  refine Tr.k [1,2,3,4] ?_
  refine ah hcx [6,1,2,3,4] ?_
  simp only[jf,Ok,wn,wm (ρ:=[6,1,2,3,4]) (n:=0) (fun _=>rfl),rm (ρ:=[6,1,2,3,4]) (n:=0) (fun _=>rfl)]
  refine Tr.v hcx [1000017] _ [] rfl rfl rfl ?_ aT
  exact ⟨i+1,⟨(by omega),O1⟩,LT,by simp only[←Mc hc15 c1,Mg c1,Mh c1,hVx] <;>rfl⟩
 refine Tr.exit ?_
 refine hK1 _ ?_
 obtain rfl:i=w.length:=by omega
 rw[List.take_length]
 refine Tr.w hcx [] _ [] rfl rfl rfl ?_ aT
 refine Tr.k [2] ?_
 refine ah hcx [0,1,2,3] ?_
 simp only[Mn,Mo]
 simp only[rm (ρ:=[0,1,2,3]) (n:=0) (fun _=>rfl),oU (ρ:=[0,1,2,3]) (n:=0) (fun _=>rfl),en]
 exact Tr.ret Hi
end Go.Sx
namespace Go.Sx
open Go.RowKit Go.Proofs
set_option maxRecDepth 100000
set_option maxHeartbeats 8000000
theorem oW {l:List C}{k:Nat}{x:C}(h:k< l.length)(hx:x.noR=x):cK (l.set k x) k=some x:=by
 unfold cK;rw[List.getElem?_set_self h];simp[hx]
theorem oX {l:List C}{k j:Nat}{x:C}(h:¬j=k):cK (l.set k x) j=cK l j:=by
 unfold cK;rw[List.getElem?_set_ne (fun e=>h e.symm)]
theorem aG {n m i:Nat}{w:aj}(h:i< w.length):cK (fV n i m w) i=some (.gv (n+1) m (2,48)):=oW (by rw[aw (f:=vC),Nat.mul_one];exact h) rfl
theorem zG {n v0 m i:Nat}{w:aj}(h:i< w.length)(c:¬i=v0):cK (fV n v0 m w) i=some (sl aC .no (gt w i)):=(oX c).trans (oJ w i h)
theorem aP {n m k:Nat}{V:bY}(h:k< V.length):cK (fA n k m V) (k*2+1) =some (.gv (n+2) m (7,37)):=oW (by rw[aw (f:=aC)];omega) rfl
theorem zH {n a0 m k:Nat}{V:bY}(h:k< V.length)(c:¬k=a0):cK (fA n a0 m V) (k*2+1) =some (sl pC .no (gt V k).2):=(oX (by omega)).trans (oI V k h)
theorem Ol (k n v0 m:Nat)(w:aj)(h:n+1< k):noRefs k (fV n v0 m w) =true:=kJ k _ (by simp[ag,h]) _ _ (aF vC k w)
theorem Om (k n v0 m:Nat)(w:bY)(h:n+2< k):noRefs k (fA n v0 m w) =true:=kJ k _ (by simp[ag,h]) _ _ (aF aC k w)
theorem pU {v0 m a0 m2:Nat}(w:aj)(V:bY)(l:List aN)(k:Nat)(h:2< k):i8 k [some (fV 0 v0 m w),some (fA 0 a0 m2 V),some (cl pC l)] =true:=by
 simp only[i8,Ol k 0 v0 m w (by omega),Om k 0 a0 m2 V (by omega),aF pC k l,Bool.and_self]
theorem dG {p:Prop}(e:p:=by intro KZ hZ;simp -implicitDefEqProofs (maxSteps:=2000000) (disch:=first|omega| (simp only[go_sem,lA,lD,lT,hVl,hwl] <;>omega) |decide) only[go_sem,↓reduceIte,Nat.reduceEqDiff,reduceCtorEq,Nat.reduceLT,Nat.reduceBEq,Nat.reduceAdd,hVV,hR,hR2,c1,c2,hy];with_reducible exact hZ):p:=e
theorem Hj {p:Prop}(e:p:=by simp -implicitDefEqProofs (disch:=first|omega| (simp only[go_sem,lA,lD,lT,hVl,hwl] <;>omega) |decide) only[go_sem,↓reduceIte,Nat.reduceEqDiff,reduceCtorEq];all_goals (exact ⟨rfl,rfl⟩)):p:=e
theorem On {gl:Nat→C}{M:Nat}{pu:Nat→List C→Option C}(hcx:CxOK (aS gl M pu))(w:aj)(v0 a0:Nat)(hw:WG w):FC Tryd.prog gl 14 [.agg [.gv 0 w.length (1,46)]] [some (fV 0 v0 (gt w v0).length w),some (fA 0 a0 (gt (gt w v0) a0).2.length (gt w v0)),some (cl pC (gt (gt w v0) a0).2)] (sl pC (.own 7) (cB w)) [some (fV 0 v0 (gt w v0).length w),some (fA 0 a0 (gt (gt w v0) a0).2.length (gt w v0)),some (cl pC (gt (gt w v0) a0).2)]:=by
 replace hcx:=hcx.reN (M:=37)
 refine JZ (cx:=aS gl 37 pu) (rs:=[.tmp 2]) rfl Tryd.func14 rfl rfl rfl (by simp only[List.length_cons,List.length_nil];decide) (by simp only[go_sem]) (pU _ _ _ 3 (by decide)) ?_
 simp only[dm,go_sem]
 have c1:=True.intro
 have c2:=True.intro
 have hy:=True.intro
 have hwl:=hw.n
 have hal:=hw.al
 have hVV:=True.intro
 have hVl:=True.intro
 have hR:=True.intro
 have hR2:=True.intro
 refine Tr.w hcx [] _ [none] rfl rfl rfl ?_ dG
 refine Tr.w hcx [] _ [] rfl rfl rfl ?_ dG
 refine af fun K1 hK1=>?_
 refine Tr.w hcx [] _ [] rfl rfl rfl ?_ dG
 refine Tr.k [1,3,4] ?_
 refine ax ?_
 refine bz (α:=Nat) (fun a=>[(1,?v1_1),(3,sl pC (.own 7) (pV w a)),(4,.val (nI a))]) (fun a=>[some (fV 0 v0 (gt w v0).length w),some (fA 0 a0 (gt (gt w v0) a0).2.length (gt w v0)),some (cl pC (gt (gt w v0) a0).2),some [.gv 0 w.length (1,46)]]) (fun a=>a≤w.length) (fun a=>w.length - a) (0) (Nat.zero_le _) ?le_1 ?hh_1 ?bd_1
 case hh_1=>exact rfl
 case le_1=>exact LT
 rintro v hv
 have hp:=rh w v
 refine af fun K2 hK2=>?_
 refine Tr.w hcx [] _ [] rfl rfl rfl ?_ dG
 refine bc rfl (fun hc10=>?_) (fun hc10=>?_)
 ·
  obtain ⟨V,hV⟩:∃V,gt w v=V:=⟨_,rfl⟩
  have hVV:=hV
  have hwv:=hw.v _ (ba w v hc10)
  rw[hV] at hwv
  have hVl:=hwv.1
  refine Tr.skip ?_
  refine hK2 _ ?_
  refine af fun K3 hK3=>?_
  refine ax ?_
  by_cases c1:v=v0
  ·
   subst c1
   have c1:=True.intro
   simp only[hV]
   have hR:=aG (n:=0) (m:=V.length) hc10
   refine Tr.w hcx [] _ [] rfl rfl rfl ?_ dG
   refine Tr.k [1,3,4,5] ?_
   refine ax ?_
   refine bz (α:=Nat) (fun a=>[(1,?v1_2),(3,sl pC (.own 7) (pV w v++pA V a)),(4,?v4_2),(5,.val (nI a))]) (fun a=>[some (fV 0 v V.length w),some (fA 0 a0 (gt V a0).2.length V),some (cl pC (gt V a0).2),some [.gv 0 w.length (1,46)]]) (fun a=>a≤V.length) (fun a=>V.length - a) (0) (Nat.zero_le _) ?le_2 ?hh_2 ?bd_2
   case hh_2=>exact rfl
   case le_2=>(simp only[dz,cU,↓cV,↓reduceIte,Nat.reduceEqDiff,cC,db,cE,dc,dg,and_true,true_and];all_goals (repeat' first|exact CLe.refl _|exact True.intro| (refine bS ?_;first|rfl| (simp only[List.take_zero];done)) |exact dE (by omega) |exact dA (by omega) |exact dB (by omega) |exact dD (by omega) |with_reducible apply And.intro));all_goals (first|exact CLe.refl _| (rw[show pA V 0= [] from rfl,List.append_nil];exact CLe.refl _))
   rintro k hk
   have hp2:=oO w v (k+1) hc10
   rw[hV] at hp2
   refine af fun K4 hK4=>?_
   refine Tr.w hcx [] _ [] rfl rfl rfl ?_ dG
   refine bc rfl (fun hc21=>?_) (fun hc21=>?_)
   ·
    have hAk:=(hwv.2 _ (ba V k hc21)).2.1
    rw[lO V k hc21,List.length_append] at hp2
    refine Tr.skip ?_
    refine hK4 _ ?_
    refine af fun K5 hK5=>?_
    refine ax ?_
    by_cases c2:k=a0
    ·
     subst c2
     have c2:=True.intro
     have hR2:=aP (n:=0) (m:=(gt V k).2.length) hc21
     skip
     refine Tr.v hcx [24,1000035] _ [] rfl rfl rfl ?_ dG
     refine hK5 _ ?_
     refine Tr.k [1,3,4,5] ?_
     refine Tr.v hcx [1000023] _ [] rfl rfl rfl ?_ dG
     refine ⟨k+1,⟨(by omega),O1⟩,?_,rfl⟩
     (simp only[dz,cU,↓cV,↓reduceIte,Nat.reduceEqDiff,cC,db,cE,dc,dg,and_true,true_and];all_goals (repeat' first|exact CLe.refl _|exact True.intro| (refine bS ?_;first|rfl| (simp only[List.take_zero];done)) |exact dE (by omega) |exact dA (by omega) |exact dB (by omega) |exact dD (by omega) |with_reducible apply And.intro))
     all_goals (first| (rw[lO V k hc21,List.append_assoc];exact CLe.refl _) |exact CLe.refl _)
    have hR2:=zH (n:=0) (m:=(gt V a0).2.length) hc21 c2
    skip
    refine Tr.v hcx [24,1000035] _ [] rfl rfl rfl ?_ dG
    refine hK5 _ ?_
    refine Tr.k [1,3,4,5] ?_
    refine Tr.v hcx [1000023] _ [] rfl rfl rfl ?_ dG
    refine ⟨k+1,⟨(by omega),O1⟩,?_,rfl⟩
    (simp only[dz,cU,↓cV,↓reduceIte,Nat.reduceEqDiff,cC,db,cE,dc,dg,and_true,true_and];all_goals (repeat' first|exact CLe.refl _|exact True.intro| (refine bS ?_;first|rfl| (simp only[List.take_zero];done)) |exact dE (by omega) |exact dA (by omega) |exact dB (by omega) |exact dD (by omega) |with_reducible apply And.intro))
    all_goals (first| (rw[lO V k hc21,List.append_assoc];exact CLe.refl _) |exact CLe.refl _)
   obtain rfl:k=V.length:=by omega
   refine Tr.exit ?_
   refine hK3 _ ?_
   refine Tr.v hcx [1000012] _ [] rfl rfl rfl ?_ dG
   refine ⟨v+1,⟨(by omega),O1⟩,?_,by simp only[hV]⟩
   (simp only[dz,cU,↓cV,↓reduceIte,Nat.reduceEqDiff,cC,db,cE,dc,dg,and_true,true_and];all_goals (repeat' first|exact CLe.refl _|exact True.intro| (refine bS ?_;first|rfl| (simp only[List.take_zero];done)) |exact dE (by omega) |exact dA (by omega) |exact dB (by omega) |exact dD (by omega) |with_reducible apply And.intro))
   all_goals (first| (rw[pL w v hc10,hV];exact CLe.refl _) |exact CLe.refl _)
  have hR:=zG (n:=0) (m:=(gt w v0).length) hc10 c1
  rw[hV] at hR
  refine Tr.w hcx [] _ [] rfl rfl rfl ?_ dG
  refine Tr.k [1,3,4,5] ?_
  refine ax ?_
  refine bz (α:=Nat) (fun a=>[(1,?v1_3),(3,sl pC (.own 7) (pV w v++pA V a)),(4,?v4_3),(5,.val (nI a))]) (fun a=>[some (fV 0 v0 (gt w v0).length w),some (fA 0 a0 (gt (gt w v0) a0).2.length (gt w v0)),some (cl pC (gt (gt w v0) a0).2),some [.gv 0 w.length (1,46)]]) (fun a=>a≤V.length) (fun a=>V.length - a) (0) (Nat.zero_le _) ?le_3 ?hh_3 ?bd_3
  case hh_3=>exact rfl
  case le_3=>(simp only[dz,cU,↓cV,↓reduceIte,Nat.reduceEqDiff,cC,db,cE,dc,dg,and_true,true_and];all_goals (repeat' first|exact CLe.refl _|exact True.intro| (refine bS ?_;first|rfl| (simp only[List.take_zero];done)) |exact dE (by omega) |exact dA (by omega) |exact dB (by omega) |exact dD (by omega) |with_reducible apply And.intro));all_goals (first|exact CLe.refl _| (rw[show pA V 0= [] from rfl,List.append_nil];exact CLe.refl _))
  rintro k hk
  have hp2:=oO w v (k+1) hc10
  rw[hV] at hp2
  refine af fun K6 hK6=>?_
  refine Tr.w hcx [] _ [] rfl rfl rfl ?_ dG
  refine bc rfl (fun hc21=>?_) (fun hc21=>?_)
  ·
   have hAk:=(hwv.2 _ (ba V k hc21)).2.1
   rw[lO V k hc21,List.length_append] at hp2
   refine Tr.skip ?_
   refine hK6 _ ?_
   refine af fun K7 hK7=>?_
   refine ax ?_
   have c2:=True.intro
   refine Tr.v hcx [24,1000035] _ [] rfl rfl rfl ?_ dG
   refine hK7 _ ?_
   refine Tr.k [1,3,4,5] ?_
   refine Tr.v hcx [1000023] _ [] rfl rfl rfl ?_ dG
   refine ⟨k+1,⟨(by omega),O1⟩,?_,rfl⟩
   (simp only[dz,cU,↓cV,↓reduceIte,Nat.reduceEqDiff,cC,db,cE,dc,dg,and_true,true_and];all_goals (repeat' first|exact CLe.refl _|exact True.intro| (refine bS ?_;first|rfl| (simp only[List.take_zero];done)) |exact dE (by omega) |exact dA (by omega) |exact dB (by omega) |exact dD (by omega) |with_reducible apply And.intro))
   all_goals (first| (rw[lO V k hc21,List.append_assoc];exact CLe.refl _) |exact CLe.refl _)
  obtain rfl:k=V.length:=by omega
  refine Tr.exit ?_
  refine hK3 _ ?_
  refine Tr.v hcx [1000012] _ [] rfl rfl rfl ?_ dG
  refine ⟨v+1,⟨(by omega),O1⟩,?_,rfl⟩
  (simp only[dz,cU,↓cV,↓reduceIte,Nat.reduceEqDiff,cC,db,cE,dc,dg,and_true,true_and];all_goals (repeat' first|exact CLe.refl _|exact True.intro| (refine bS ?_;first|rfl| (simp only[List.take_zero];done)) |exact dE (by omega) |exact dA (by omega) |exact dB (by omega) |exact dD (by omega) |with_reducible apply And.intro))
  all_goals (first| (rw[pL w v hc10,hV];exact CLe.refl _) |exact CLe.refl _)
 obtain rfl:v=w.length:=by omega
 rw[←lP]
 refine Tr.exit ?_
 refine hK1 _ ?_
 refine Tr.w hcx [1000036] _ [] rfl rfl rfl ?_ dG
 exact Tr.ret Hj
end Go.Sx
namespace Go.Sx
open Go.RowKit Go.Proofs
set_option maxRecDepth 100000
set_option maxHeartbeats 8000000
end Go.Sx
namespace Go.Sx
open Go.RowKit
mutual
theorem DL {r:Nat→Nat}{k:Nat}(hr:∀i,i< k→r i=i):∀c:C,ag k c=true→bU r c=c
 | .val _,_=>by simp only[bU]
 | .top,_=>by simp only[bU]
 | .agg xs,h=>by simp only[ag] at h;simp only[bU,bks_id hr xs h]
 | .tup xs,h=>by simp only[ag] at h;simp only[bU,bks_id hr xs h]
 | .kp xs,h=>by simp only[ag] at h;simp only[bU,bks_id hr xs h]
 | .sl _ _ xs,h=>by simp only[ag] at h;simp only[bU,bks_id hr xs h]
 | .fn _ xs,h=>by simp only[ag] at h;simp only[bU,bks_id hr xs h]
 | .sv _ _ _,h=>by simp only[ag,decide_eq_true_eq] at h;simp only[bU,hr _ h]
 | .gv _ _ _,h=>by simp only[ag,decide_eq_true_eq] at h;simp only[bU,hr _ h]
 | .bp _ _,h=>by simp only[ag,decide_eq_true_eq] at h;simp only[bU,hr _ h]
 | .bt _ _ _,h=>by simp only[ag,decide_eq_true_eq] at h;simp only[bU,hr _ h]
 | .mp _,h=>by simp only[ag,decide_eq_true_eq] at h;simp only[bU,hr _ h]
theorem bks_id {r:Nat→Nat}{k:Nat}(hr:∀i,i< k→r i=i):∀l:List C,noRefs k l=true→bkCs r l=l
 | [],_=>by simp only[bkCs]
 |x::xs,h=>by simp only[noRefs,Bool.and_eq_true] at h;simp only[bkCs,DL hr x h.1,bks_id hr xs h.2]
end
theorem oD {r:Nat→Nat}{k:Nat}(hr:∀i,i< k→r i=i):∀h:Hp,i8 k h=true→h.map (Option.map (bkCs r)) =h
 | [],_=>rfl
 |none::h,q=>by simp only[i8] at q;simp only[List.map_cons,Option.map_none,oD hr h q]
 |some c::h,q=>by simp only[i8,Bool.and_eq_true] at q;simp only[List.map_cons,Option.map_some,bks_id hr c q.1,oD hr h q.2]
noncomputable def hpS (hp:Nat→List C→Hp→Option (C×Hp))(f:Nat)(az:List C)(X:Hp)(r:C×Hp):Nat→List C→Hp→Option (C×Hp):=fun g xs h=>open Classical in if g=f∧xs=az∧h.take X.length=X∧OkH (h.drop X.length) then some (r.1,r.2++h.drop X.length) else hp g xs h
theorem GK (hp:Nat→List C→Hp→Option (C×Hp))(f:Nat)(az:List C)(X:Hp)(r:C×Hp)(suf:Hp)(hs:OkH suf):hpS hp f az X r f az (X++suf) =some (r.1,r.2++suf):=by
 unfold hpS;rw[if_pos ⟨rfl,rfl,by simp,by simpa using hs⟩];simp
theorem zd {P:Program}{gl:Nat→C}{km:TypeId→Value→Bool}{pu:Nat→List C→Option C}{hp:Nat→List C→Hp→Option (C×Hp)}{N M:Nat}(hcx:CxOK ⟨P,N,gl,pu,hp,fun _=>false,km,true⟩){f:Nat}{az:List C}{X:Hp}{r:C×Hp}(hf:FC P gl f az X r.1 r.2)
 (hl:r.2.length=X.length) (al:∀o∈X,((aQ o).isSome|| (eu o).isSome) =true) (na:noRefs X.length az=true) (nx:i8 X.length X=true) (nc:ag X.length r.1=true) (ny:i8 X.length r.2=true):
 CxOK ⟨P,M,gl,pu,hpS hp f az X r,fun _=>false,km,true⟩:=by
 refine ⟨hcx.glo,hcx.pu,fun g xs h c k' hc=>?_,hcx.km⟩
 by_cases e:g=f∧xs=az∧h.take X.length=X∧OkH (h.drop X.length)
 . have hc:hpS hp f az X r g xs h=some (c,k'):=hc
   obtain ⟨rfl,rfl,e1,e2⟩:=e
   obtain ⟨suf,rfl⟩:∃suf,h=X++suf:=⟨h.drop X.length,by conv=>lhs;rw[←List.take_append_drop X.length h,e1]⟩
   rw[List.drop_left] at e2
   rw[GK _ _ _ _ _ _ e2] at hc
   cases hc
   have h0:∀i,i< X.length→(0+ ·) i=i:=fun i _=>Nat.zero_add i
   have h1:∀i,i< X.length→i7 0 X.length suf.length i=i:=fun i hi=>by unfold i7;rw[if_pos hi,Nat.zero_add]
   have q:=JY hf [] suf (fun o ho=>by cases ho) e2 al na (GC nx) (by rw[hl];exact Nat.le_refl _) hcx.glo
   simp only[List.length_nil,List.nil_append] at q
   rw[bks_id h0 _ na,DL h1 _ nc,List.take_of_length_le (by omega),List.drop_of_length_le (by omega),List.map_nil,List.append_nil,oD h1 _ ny,show dn 0 X=X from oD h0 _ nx] at q
   exact q
 . have hc:hpS hp f az X r g xs h=some (c,k'):=hc
   unfold hpS at hc
   rw[if_neg e] at hc
   exact hcx.hp g xs h c k' hc
end Go.Sx
namespace Go.Sx
open Go.RowKit Go.Proofs
set_option maxRecDepth 100000
set_option maxHeartbeats 8000000
end Go.Sx
namespace Go.Sx
open Go.RowKit Go.Proofs
theorem aq {ρ:List Nat}{n k v0 m:Nat}{w:aj}(h:∀m,aY ρ (.gv (n+1) m (2,48)) = .gv (k+1) m (2,48)):mvCs ρ (fV n v0 m w) =fV k v0 m w:=by unfold fV;rw[jZ,en,h]
theorem bJ {ρ:List Nat}{n k v0 m:Nat}{w:bY}(h:∀m,aY ρ (.gv (n+2) m (7,37)) = .gv (k+2) m (7,37)):mvCs ρ (fA n v0 m w) =fA k v0 m w:=by unfold fA;rw[jZ,en,h]
theorem iM (ok:Nat→Bool)(b:Nat)(ys:List C)(x:C):∀ (l:List C)(i:Nat),fzCs ok b ys (l.set i x) = (fzCs ok b ys l).set i (aU ok b ys x)
 | [],_=>by simp only[List.set_nil,fzCs]
 |y::l,0=>by simp only[List.set_cons_zero,fzCs]
 |y::l,i+1=>by simp only[List.set_cons_succ,fzCs,iM ok b ys x l i]
theorem an (V:bY)(a:Nat)(l:List aN): (cl aC V).set (a*2+1) (sl pC .no l) =cl aC (V.set a ((gt V a).1,l)):=by
 induction V generalizing a with
 |nil=>rfl
 |cons x V ih=>
  cases a with
  |zero=>rfl
  |succ a=>
   rw[cS,List.set_cons_succ,cS]
   show (C.val (str x.1)::sl pC .no x.2::cl aC V).set ((a+1)*2+1) _=_
   rw[show (a+1)*2+1= (a*2+1)+1+1 by omega,List.set_cons_succ,List.set_cons_succ,ih]
   rfl
theorem e5 (w:aj)(v:Nat)(V:bY): (cl vC w).set v (sl aC .no V) =cl vC (w.set v V):=by
 induction w generalizing v with
 |nil=>rfl
 |cons x w ih=>
  cases v with
  |zero=>rfl
  |succ v=>
   rw[cS,List.set_cons_succ,cS]
   show (sl aC .no x::cl vC w).set (v+1) _=_
   rw[List.set_cons_succ,ih];rfl
theorem bK (l:List aN)(n:Nat)(h:n=l.length):fS (cl pC l) n (7,37) =sl pC .no l:=jQ pC 37 l n h
theorem j0 (l:List fH)(n:Nat)(h:n=l.length):fS (cl aC l) n (2,48) =sl aC .no l:=jQ aC 48 l n h
theorem bf (l:List bY)(n:Nat)(h:n=l.length):fS (cl vC l) n (1,46) =sl vC .no l:=jQ vC 46 l n h
theorem b8 {ok:Nat→Bool}{v m:Nat}{w:aj}{V:bY}(h:m=V.length):fzCs ok 1 (cl aC V) (fV 0 v m w) =cl vC (w.set v V):=by
 unfold fV
 rw[iM,iJ,lH,if_pos rfl,j0 V m h,e5]
end Go.Sx
namespace Go.Sx
open Go.RowKit
end Go.Sx
