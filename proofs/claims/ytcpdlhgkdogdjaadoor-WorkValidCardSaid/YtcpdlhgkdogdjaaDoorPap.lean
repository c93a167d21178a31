/-
   And what follows.
-/
import Derived.Test.YtcpdlhgkdogdjaaDoorPao
set_option linter.unusedSimpArgs false
set_option linter.unusedVariables false
namespace Go.Sx
open Go.RowKit Go.Proofs
set_option maxRecDepth 100000
set_option maxHeartbeats 8000000
noncomputable def ic (gl:Nat→C)(M:Nat)(pu:Nat→List C→Option C)(hp:Nat→List C→Hp→Option (C×Hp)):Cx:=⟨Tryd.prog,M,gl,pu,hp,fun _=>false,oX,true⟩
section
variable {gl:Nat→C} {M:Nat} {pu:Nat→List C→Option C} {hp:Nat→List C→Hp→Option (C×Hp)}
theorem Sr: (ic gl M pu hp).P=Tryd.prog:=rfl
theorem Ss: (ic gl M pu hp).N=M:=rfl
theorem Ph: (ic gl M pu hp).pu=pu:=rfl
theorem Pi: (ic gl M pu hp).hp=hp:=rfl
theorem Pj (g:Nat)(az:List C)(o:Option (C×Hp)):ml (ic gl M pu hp) g az none o=some (.call g az):=rfl
theorem Pk (d:Option Nat):jI (ic gl M pu hp) d=false:=by cases d<;>rfl
end
theorem yS {gl:Nat→C}{M:Nat}{pu:Nat→List C→Option C}{hp:Nat→List C→Hp→Option (C×Hp)}: (ic gl M pu hp).P.follows .mixedOrders=true:=eG (gl:=gl) (M:=M) (pu:=pu)
attribute [go_sem] Pj Sr Ss Ph Pi Pk
theorem UZ (t:List UInt8)(ps:List aI):aS [[(t,ps)]] =k7 0 0 ps:=by
 show ([0]:List Nat).flatMap (fun v=>([0]:List Nat).flatMap fun a=>k7 v a ps) =_
 simp
def OkOne (ps:List aI):Prop:=ps.length≤1000∧∀i,i< ps.length→(gt ps i).2.2.2.1.length≤1000∧(gt ps i).2.2.2.2.length≤1000∧c9 (gt ps i).1
theorem OkOne.rd {t:List UInt8}{ps:List aI}(h:OkOne ps): (aS [[(t,ps)]]).length=ps.length∧∀i,i< ps.length→(gt (aS [[(t,ps)]]) i).2=gt ps i:=by
 rw[UZ,rH]
 exact ⟨rfl,fun i hi=>by rw[B5 0 0 ps i hi]⟩
theorem OkOne.wb {t:List UInt8}{ps:List aI}(h:OkOne ps):WB [[(t,ps)]]:=by
 refine ⟨by show 1< _;decide,fun v hv=>?_,fun v a hv ha=>?_⟩
 . obtain rfl:v=0:=by simpa using hv
   show 1< _;decide
 . obtain rfl:v=0:=by simpa using hv
   obtain rfl:a=0:=by have:a< 1:=ha;omega
   show ps.length< _
   have:=h.1;omega
theorem OkOne.ws {t:List UInt8}{ps:List aI}(h:OkOne ps):WS [[(t,ps)]]:=by
 have hr:=h.rd (t:=t)
 refine ⟨h.wb,by rw[hr.1];have:=h.1;omega,fun i hi=>?_⟩
 rw[hr.1] at hi
 rw[hr.2 i hi];have:=(h.2 i hi).2.1;omega
theorem OkOne.tx {t:List UInt8}{ps:List aI}(h:OkOne ps):∀i,i< (aS [[(t,ps)]]).length→(gt (aS [[(t,ps)]]) i).2.2.2.2.1.length≤1000000:=fun i hi=>by
 have hr:=h.rd (t:=t)
 rw[hr.1] at hi
 rw[hr.2 i hi];have:=(h.2 i hi).1;omega
theorem OkOne.id {t:List UInt8}{ps:List aI}(h:OkOne ps):∀i,i< (aS [[(t,ps)]]).length→c9 (gt (aS [[(t,ps)]]) i).2.1:=fun i hi=>by
 have hr:=h.rd (t:=t)
 rw[hr.1] at hi
 rw[hr.2 i hi];exact (h.2 i hi).2.2
theorem OkOne.tt {t:List UInt8}{ps:List aI}(h:t.length≤1000):∀v a,v< [[(t,ps)]].length→a< (gt [[(t,ps)]] v).length→(gt (gt [[(t,ps)]] v) a).1.length≤1000000:=fun v a hv ha=>by
 obtain rfl:v=0:=by simpa using hv
 obtain rfl:a=0:=by have:a< 1:=ha;omega
 show t.length≤_;omega
def jB:List aI:=[((0,0,0),0,0,s9,[]),((0,1,0),1,0,qH,[]),((0,2,0),2,0,qI,[])]
def jT:List aI:=[((0,1,0),1,0,qH,[]),((0,2,0),2,0,qI,[])]
def ln:List aI:=[((0,0,0),2,0,s9,[(0,1,0)]),((0,1,0),1,0,qH,[]),((0,2,0),2,0,qI,[])]
def oT:List aI:=[((0,0,0),0,0,s9,[(0,1,0)]),((0,1,0),1,0,qH,[]),((0,0,0),2,0,qI,[])]
def Hd (ps:List aI):Bool:=decide (ps.length≤1000) && ps.all fun p=>decide (p.2.2.2.1.length≤1000) && decide (p.2.2.2.2.length≤1000) && gz p.1
theorem OkOne.of {ps:List aI}(h:Hd ps=true):OkOne ps:=by
 unfold Hd at h
 rw[Bool.and_eq_true,decide_eq_true_iff] at h
 refine ⟨h.1,fun i hi=>?_⟩
 have:=qx ps _ h.2 i hi
 simp only[Bool.and_eq_true,decide_eq_true_iff] at this
 refine ⟨this.1.1,this.1.2,?_⟩
 have h3:=this.2
 unfold gz at h3
 rw[decide_eq_true_iff] at h3
 refine ⟨⟨?_,?_⟩,⟨?_,?_⟩,?_,?_⟩ <;>omega
theorem i8:OkOne exPs:= .of (by decide+kernel)
theorem yT:OkOne jB:= .of (by decide+kernel)
theorem yU:OkOne jT:= .of (by decide+kernel)
theorem yV:OkOne ln:= .of (by decide+kernel)
theorem yW:OkOne oT:= .of (by decide+kernel)
theorem U0:eF [[(co,exPs)]] =0:=by decide+kernel
theorem U1:eF [[(co,jB)]] =1:=by decide+kernel
theorem U2:eF [[(co,jT)]] =8:=by decide+kernel
theorem U3:eF [[(co,ln)]] =8:=by decide+kernel
theorem U4:eF [[(co,oT)]] =7:=by decide+kernel
theorem U5:dI [[(co,exPs)]] (0,1,0) = ((0,0,1),true):=by decide+kernel
theorem U6: (dW (d4 [(0,2,0),(5,5,5),(0,0,0)]) (aZ [[(co,exPs)]])).2= [(0,0,0),(0,2,0)]:=by decide+kernel
theorem U7: (dW (d4 [(0,0,0),(0,2,0)]) (aZ [[(co,exPs)]])).2= [(0,0,0),(0,2,0)]:=by decide+kernel
theorem Su: (dW (d4 [(0,2,0),(0,2,0)]) (aZ [[(co,exPs)]])).2= [(0,2,0)]:=by decide+kernel
theorem F7 (y:Nat) (a b c d e f g h i:Nat) :gN (some ⟨.struct #[Field.mk "By" 3 0 false "" "" 0,Field.mk "Seq" 3 1 false "" "" 8,Field.mk "K" 3 2 false "" "" 16],3,y,[nI 0,nI 0,nI 0]⟩) 3 [(0,.agg [.val (nI a),.val (nI b),.val (nI c)]),(1,.agg [.val (nI d),.val (nI e),.val (nI f)]),(2,.agg [.val (nI g),.val (nI h),.val (nI i)])] =some (vp (sl iD .full [((a:Int),(b:Int),(c:Int)),((d:Int),(e:Int),(f:Int)),((g:Int),(h:Int),(i:Int))])) :=rfl
theorem F8 (y:Nat) (a b c d e f:Nat) :gN (some ⟨.struct #[Field.mk "By" 3 0 false "" "" 0,Field.mk "Seq" 3 1 false "" "" 8,Field.mk "K" 3 2 false "" "" 16],3,y,[nI 0,nI 0,nI 0]⟩) 2 [(0,.agg [.val (nI a),.val (nI b),.val (nI c)]),(1,.agg [.val (nI d),.val (nI e),.val (nI f)])] =some (vp (sl iD .full [((a:Int),(b:Int),(c:Int)),((d:Int),(e:Int),(f:Int))])) :=rfl
attribute [go_sem high] F7 F8
theorem Pl (d:Nat)(x1 x2 x3 y1 y2 y3:Nat):ik Tryd.prog (d+2) 53 (.agg [.val (nI x1),.val (nI x2),.val (nI x3)]) (.agg [.val (nI y1),.val (nI y2),.val (nI y3)]) =some (decide (x1=y1∧x2=y2∧x3=y3)):=by
 have hn:∀a b:Nat,ik Tryd.prog (d+1) 3 (.val (nI a)) (.val (nI b)) =some (decide (a=b)):=fun a b=>by
  have:=wQ Tryd.prog d iF a b
  rw[nI,nI,this];congr 1;rw[decide_eq_decide];omega
 unfold ik
 rw[LP]
 simp only[]
 rw[iF]
 simp only[C.agg?]
 show (match ik Tryd.prog (d+1) 3 (.val (nI x1)) (.val (nI y1)) with|some true=>_|r=>r) =_
 rw[hn]
 by_cases h1:x1=y1
 . rw[decide_eq_true h1]
   show (match ik Tryd.prog (d+1) 3 (.val (nI x2)) (.val (nI y2)) with|some true=>_|r=>r) =_
   rw[hn]
   by_cases h2:x2=y2
   . rw[decide_eq_true h2]
     show (match ik Tryd.prog (d+1) 3 (.val (nI x3)) (.val (nI y3)) with|some true=>_|r=>r) =_
     rw[hn]
     by_cases h3:x3=y3
     . rw[decide_eq_true h3];simp[re,h1,h2,h3]
     . rw[decide_eq_false h3];simp[h3]
   . rw[decide_eq_false h2];simp[h2]
 . rw[decide_eq_false h1];simp[h1]
theorem U8 (op:BinOp)(x1 x2 x3 y1 y2 y3:Nat):aR Tryd.prog op 53 (.agg [.val (nI x1),.val (nI x2),.val (nI x3)]) (.agg [.val (nI y1),.val (nI y2),.val (nI y3)]) =uq op (decide (x1=y1∧x2=y2∧x3=y3)):=wa Tryd.prog op (by kernel_rfl) (Pl 7 x1 x2 x3 y1 y2 y3)
attribute [go_sem] U8
theorem Sv:dP (cl pC exPs) 6 [.val (.slice none 0 0)] =some ((cl pC exPs).set 6 (.val (.slice none 0 0)),.val undef):=rfl
theorem Sw:dP (cl pC exPs) 3 [.val (nI 2)] =some (cl pC ln,.val undef):=rfl
theorem Pm:dP (cl pC exPs) (2*7) [.val (nI 0),.val (nI 0),.val (nI 0)] =some (cl pC oT,.val undef):=rfl
theorem Pn: ((cl pC exPs).set 6 (.val (.slice none 0 0))).set 6 (sl iD .no []) =cl pC jB:=rfl
attribute [go_sem high] Sv Sw Pm
theorem vd (l:List aI)(h:3=l.length):jl (cl pC l) 3 (7,37) =sl pC .no l:=lL pC 37 l 3 h
theorem ve (t:List UInt8)(l:List aI):jl [.val (str t),sl pC .no l] 1 (2,48) =sl aC .no [(t,l)]:=rfl
theorem vf (l:List gy):jl [sl aC .no l] 1 (1,46) =sl vC .no [l]:=rfl
theorem gc {p:Prop}(e:p:=by intro KZ hZ;simp -implicitDefEqProofs (disch:=first|omega| (simp only[go_sem,lA,lD,lT] <;>omega) |decide) only[go_sem,↓reduceIte,Nat.reduceEqDiff,reduceCtorEq,Nat.reduceLT,Nat.reduceBEq,Nat.reduceAdd,n64,e64,e32,e28,e25,e27,e30a,e30b,e12a,e12b,e12c,e12d,e12e,hy];with_reducible exact hZ):p:=e
theorem Po {p:Prop}(e:p:=by intro KZ hZ;simp -implicitDefEqProofs (disch:=first|omega| (simp only[go_sem,lA,lD,lT] <;>omega) |decide) only[go_sem,↓reduceIte,Nat.reduceEqDiff,reduceCtorEq,Nat.reduceLT,Nat.reduceBEq,Nat.reduceAdd,n64,e64,e32,e28,e25,e27,e30a,e30b,e12a,e12b,e12c,e12d,e12e,hy];with_reducible refine And.intro ?_ hZ;first|exact rfl|decide):p:=e
theorem Pp {p:Prop}(e:p:=by simp -implicitDefEqProofs (disch:=first|omega| (simp only[go_sem,lA,lD,lT] <;>omega) |decide) only[go_sem,↓reduceIte,Nat.reduceEqDiff,reduceCtorEq];all_goals (rfl)):p:=e
theorem U9 {gl:Nat→C}{M:Nat}{pu:Nat→List C→Option C}{hp:Nat→List C→Hp→Option (C×Hp)}(hcx:CxOK (ic gl M pu hp))(n64:∀xs:List C,pu 64 xs=none)(hq64:∀pre:Hp,OkH pre→hp 64 [] pre=some (.agg [.gv (pre.length+3) 1 (1,46)],pre++[some [.gv (pre.length+3) 1 (1,46)],some (cl pC exPs),some [.val (str co),.gv (pre.length+1) 3 (7,37)],some [.gv (pre.length+2) 1 (2,48)]]))(h27:∀l m:List ID,l.length≤1000000→m.length≤1000000→pu 27 [sl iD .no l,sl iD .no m] =some (.val (.bool (decide (l=m)))))(h28:∀ (w:ah) (l:List ID),WS w→(∀x∈l,c9 x)→l.length≤1000000→(∀i,i< (aS w).length→c9 (gt (aS w) i).2.1)→pu 28 [.agg [sl vC .no w],sl iD .no l] =some (sl iD .no (dW (d4 l) (aZ w)).2))(h30:∀ (w:ah) (a b:ID),WS w→c9 a→c9 b→(∀i,i< (aS w).length→c9 (gt (aS w) i).2.1)→pu 30 [.agg [sl vC .no w],.agg (iD a),.agg (iD b)] =some (.val (.bool (decide ((dW (d4 [a,b]) (aZ w)).2.length=2∧gt (dW (d4 [a,b]) (aZ w)).2 0=a)))))(h12:∀w:ah,WS w→(∀i,i< (aS w).length→(gt (aS w) i).2.2.2.2.1.length≤1000000)→(∀v a,v< w.length→a< (gt w v).length→(gt (gt w v) a).1.length≤1000000)→(∀i,i< (aS w).length→c9 (gt (aS w) i).2.1)→pu 12 [.agg [sl vC .no w]] =some (.val (nI (eF w))))(h32:∀ (w:ah) (id:ID),WB w→pu 32 [.agg [sl vC .no w],.agg (iD id)] =some (.tup [.agg [.val (nI (dI w id).1.1),.val (nI (dI w id).1.2.1),.val (nI (dI w id).1.2.2)],.val (.bool (dI w id).2)]))(h25:∀w:ah,WS w→nA w w.length≤1000000→pu 25 [.agg [sl vC .no w]] =some (.agg [.val (nI w.length),.val (nI (nA w w.length)),.val (nI (aZ w).length)])):FC Tryd.prog gl 17 [] [] (.val (.bool true)) []:=by
 replace hcx:=hcx.reN (M:=140)
 refine bI (cx:=ic gl 140 pu hp) (rs:=[.tmp 0]) rfl Tryd.func17 rfl rfl rfl (by simp only[List.length_cons,List.length_nil];decide) (by simp only[go_sem]) ?_
 simp only[cZ,go_sem]
 have hy:=True.intro
 have eG:= @yS
 have e64:=hq64 [none] (OkH.cons rfl OkH.nil)
 simp only[List.length_cons,List.length_nil,List.cons_append,List.nil_append,Nat.zero_add,Nat.reduceAdd] at e64
 have e32:pu 32 [.agg [sl vC .no [[(co,exPs)]]],.agg [.val (nI 0),.val (nI 1),.val (nI 0)]] =some (.tup [.agg [.val (nI 0),.val (nI 0),.val (nI 1)],.val (.bool true)]):=by have h:=h32 [[(co,exPs)]] (0,1,0) (OkOne.wb i8);rw[U5] at h;exact h
 have e28:pu 28 [.agg [sl vC .no [[(co,exPs)]]],sl iD .no [(((0:Nat):Int),((2:Nat):Int),((0:Nat):Int)),(((5:Nat):Int),((5:Nat):Int),((5:Nat):Int)),(((0:Nat):Int),((0:Nat):Int),((0:Nat):Int))]] =some (sl iD .no [(((0:Nat):Int),((0:Nat):Int),((0:Nat):Int)),(((0:Nat):Int),((2:Nat):Int),((0:Nat):Int))]):=by have h:=h28 [[(co,exPs)]] [(0,2,0),(5,5,5),(0,0,0)] (OkOne.ws i8) (by intro x hx;simp only[List.mem_cons,List.not_mem_nil,or_false] at hx;rcases hx with rfl|rfl|rfl<;>exact ⟨⟨by decide,by decide⟩,⟨by decide,by decide⟩,by decide,by decide⟩) (by decide) (OkOne.id i8);rw[U6] at h;exact h
 have e25:pu 25 [.agg [sl vC .no [[(co,exPs)]]]] =some (.agg [.val (nI 1),.val (nI 1),.val (nI 3)]):=h25 [[(co,exPs)]] (OkOne.ws i8) (by decide)
 have e27:pu 27 [sl iD .no [(((0:Nat):Int),((0:Nat):Int),((0:Nat):Int)),(((0:Nat):Int),((2:Nat):Int),((0:Nat):Int))],sl iD .no [(((0:Nat):Int),((0:Nat):Int),((0:Nat):Int)),(((0:Nat):Int),((2:Nat):Int),((0:Nat):Int))]] =some (.val (.bool true)):=(h27 [(((0:Nat):Int),((0:Nat):Int),((0:Nat):Int)),(((0:Nat):Int),((2:Nat):Int),((0:Nat):Int))] _ (by decide) (by decide)).trans (by rw[decide_eq_true rfl])
 have e30a:pu 30 [.agg [sl vC .no [[(co,exPs)]]],.agg [.val (nI 0),.val (nI 0),.val (nI 0)],.agg [.val (nI 0),.val (nI 2),.val (nI 0)]] =some (.val (.bool true)):=by have h:=h30 [[(co,exPs)]] (0,0,0) (0,2,0) (OkOne.ws i8) ⟨⟨by decide,by decide⟩,⟨by decide,by decide⟩,by decide,by decide⟩ ⟨⟨by decide,by decide⟩,⟨by decide,by decide⟩,by decide,by decide⟩ (OkOne.id i8);rw[U7] at h;exact h
 have e30b:pu 30 [.agg [sl vC .no [[(co,exPs)]]],.agg [.val (nI 0),.val (nI 2),.val (nI 0)],.agg [.val (nI 0),.val (nI 2),.val (nI 0)]] =some (.val (.bool false)):=by have h:=h30 [[(co,exPs)]] (0,2,0) (0,2,0) (OkOne.ws i8) ⟨⟨by decide,by decide⟩,⟨by decide,by decide⟩,by decide,by decide⟩ ⟨⟨by decide,by decide⟩,⟨by decide,by decide⟩,by decide,by decide⟩ (OkOne.id i8);rw[Su] at h;exact h
 have e12a:pu 12 [.agg [sl vC .no [[(co,exPs)]]]] =some (.val (nI 0)):=by rw[h12 [[(co,exPs)]] (OkOne.ws i8) (OkOne.tx i8) (OkOne.tt (by decide)) (OkOne.id i8),U0]
 have e12b:pu 12 [.agg [sl vC .no [[(co,jB)]]]] =some (.val (nI 1)):=by rw[h12 [[(co,jB)]] (OkOne.ws yT) (OkOne.tx yT) (OkOne.tt (by decide)) (OkOne.id yT),U1]
 have e12c:pu 12 [.agg [sl vC .no [[(co,jT)]]]] =some (.val (nI 8)):=by rw[h12 [[(co,jT)]] (OkOne.ws yU) (OkOne.tx yU) (OkOne.tt (by decide)) (OkOne.id yU),U2]
 have e12d:pu 12 [.agg [sl vC .no [[(co,ln)]]]] =some (.val (nI 8)):=by rw[h12 [[(co,ln)]] (OkOne.ws yV) (OkOne.tx yV) (OkOne.tt (by decide)) (OkOne.id yV),U3]
 have e12e:pu 12 [.agg [sl vC .no [[(co,oT)]]]] =some (.val (nI 7)):=by rw[h12 [[(co,oT)]] (OkOne.ws yW) (OkOne.tx yW) (OkOne.tt (by decide)) (OkOne.id yW),U4]
 refine Tr.w hcx [] _ [] rfl rfl rfl ?_ gc
 refine Tr.w hcx [] _ [none] rfl rfl rfl ?_ gc
 refine ab hcx 2 (cl pC exPs) ?_
 simp only[vd exPs rfl]
 refine ab hcx 3 [.val (str co),sl pC .no exPs] ?_
 simp only[ve]
 refine ab hcx 4 [sl aC .no [(co,exPs)]] ?_
 simp only[vf]
 refine Tr.k [1] ?_
 refine bD hcx [0] ?_
 refine ab hcx 0 [sl vC .no [[(co,exPs)]]] ?_
 refine bD hcx [] ?_
 refine Tr.w hcx [1000015] _ [none] rfl rfl rfl ?_ gc
 refine Tr.w hcx [1000021] _ [] rfl rfl rfl ?_ gc
 refine Tr.k [1,2,3,4] ?_
 refine ae fun K1 hK1=>?_
 refine Tr.w hcx [] [some 22,some 23,some 24,some 25,some 26,some 27,some 28,some 29,some 30,some 31,some 32,some 33,some 34,some 35,some 36,some 37,some 38,some 39,some 40,some 41,some 42,some 43,some 44,some 45,some 46,some 47,some 48,some 49,some 50,some 51,some 52,some 53,some 54,some 55,some 56,some 57] [] rfl rfl rfl ?_ gc
 refine Tr.k [1,57] ?_
 refine aO rfl ?_
 refine Tr.skip ?_
 refine hK1 _ ?_
 refine Tr.k [1] ?_
 refine bD hcx [] ?_
 refine Tr.w hcx [] _ [none] rfl rfl rfl ?_ gc
 refine Tr.w hcx [] _ [] rfl rfl rfl ?_ gc
 refine Tr.bxc 2 6 (sl iD .no []) ((cl pC exPs).set 6 (.val (.slice none 0 0))) rfl rfl (bH rfl) rfl ?_
 simp only[Pn]
 simp only[List.set_cons_succ,List.set_cons_zero]
 refine ab hcx 2 (cl pC jB) ?_
 simp only[vd jB rfl]
 refine ab hcx 3 [.val (str co),sl pC .no jB] ?_
 simp only[ve]
 refine ab hcx 4 [sl aC .no [(co,jB)]] ?_
 simp only[vf]
 refine Tr.k [1,5] ?_
 refine bD hcx [0] ?_
 refine ab hcx 0 [sl vC .no [[(co,jB)]]] ?_
 refine bD hcx [] ?_
 refine Tr.w hcx [] _ [none] rfl rfl rfl ?_ gc
 refine Tr.k [1,5,6] ?_
 refine ab hcx 2 (cl pC exPs) ?_
 simp only[vd exPs rfl]
 refine fh hcx eG [] _ [] rfl rfl rfl rfl ?_ Po
 simp only[show exPs.drop 1=jT from rfl]
 refine ab hcx 3 [.val (str co),sl pC .no jT] ?_
 simp only[ve]
 refine ab hcx 4 [sl aC .no [(co,jT)]] ?_
 simp only[vf]
 refine Tr.k [1,5,6] ?_
 refine bD hcx [0] ?_
 refine ab hcx 0 [sl vC .no [[(co,jT)]]] ?_
 refine bD hcx [] ?_
 refine Tr.w hcx [] _ [none] rfl rfl rfl ?_ gc
 refine Tr.k [1,5,6,7] ?_
 refine Tr.w hcx [] _ [] rfl rfl rfl ?_ gc
 refine ab hcx 2 (cl pC ln) ?_
 simp only[vd ln rfl]
 refine ab hcx 3 [.val (str co),sl pC .no ln] ?_
 simp only[ve]
 refine ab hcx 4 [sl aC .no [(co,ln)]] ?_
 simp only[vf]
 refine Tr.k [1,5,6,7] ?_
 refine bD hcx [0] ?_
 refine ab hcx 0 [sl vC .no [[(co,ln)]]] ?_
 refine bD hcx [] ?_
 refine Tr.w hcx [] _ [none] rfl rfl rfl ?_ gc
 refine Tr.k [1,5,6,7,8] ?_
 refine Tr.w hcx [] _ [] rfl rfl rfl ?_ gc
 refine Tr.k [1,5,6,7,8] ?_
 refine ab hcx 2 (cl pC oT) ?_
 simp only[vd oT rfl]
 refine ab hcx 3 [.val (str co),sl pC .no oT] ?_
 simp only[ve]
 refine ab hcx 4 [sl aC .no [(co,oT)]] ?_
 simp only[vf]
 refine Tr.k [1,5,6,7,8] ?_
 refine bD hcx [0] ?_
 refine ab hcx 0 [sl vC .no [[(co,oT)]]] ?_
 refine bD hcx [] ?_
 refine Tr.w hcx [1000139] [some 109,some 110,some 111,some 112,some 113,some 114,some 115,some 116,some 117,some 118,some 119,some 120,some 121,some 122,some 123,some 124,some 125,some 126,some 127,some 128,some 129,some 130,some 131,some 132,some 133,some 134,some 135,some 136,some 137,some 138,some 139,some 0] [] rfl rfl rfl ?_ gc
 refine Tr.k [0] ?_
 exact Tr.ret Pp
end Go.Sx
namespace Go.Sx
open Go.RowKit Go.Proofs
theorem bz {α:Type}[Inhabited α](l:List α)(i:Nat)(h:i< l.length):gt l i∈l:=by simp[gt,List.getD,List.getElem?_eq_getElem h]
theorem B6 {α:Type}[Inhabited α]{l:List α}{x:α}(h:x∈l):∃i,i< l.length∧gt l i=x:=by
 obtain ⟨i,hi,rfl⟩:=List.getElem_of_mem h
 exact ⟨i,hi,by simp[gt,List.getD,List.getElem?_eq_getElem hi]⟩
theorem vg (w:ah):aZ w=w.flatMap fun V=>V.flatMap (·.2):=by
 rw[lS];unfold pV pA;rw[List.take_length]
 congr 1;funext V;rw[List.take_length]
theorem xl {w:ah}{p:aI}:p∈aZ w↔∃V,V∈w∧∃A,A∈V∧p∈A.2:=by
 rw[vg];simp only[List.mem_flatMap]
def PG (p:aI):Prop:=p.2.2.2.1.length≤1000000∧p.2.2.2.2.length≤1000000∧c9 p.1
structure WG (w:ah):Prop where
 n:w.length≤100000
 al: (aZ w).length≤100000
 ar:nA w w.length≤1000000
 v:∀V,V∈w→V.length≤100000∧∀A,A∈V→A.1.length≤1000000∧A.2.length≤100000∧∀p,p∈A.2→PG p
theorem WG.wb {w:ah}(h:WG w):WB w:=by
 refine ⟨by have:=h.n;omega,fun v hv=>?_,fun v a hv ha=>?_⟩
 . have:=(h.v _ (bz w v hv)).1;omega
 . have:=((h.v _ (bz w v hv)).2 _ (bz _ a ha)).2.1;omega
theorem WG.pg {w:ah}(h:WG w){i:Nat}(hi:i< (aS w).length):PG (gt (aS w) i).2:=by
 rw[←jW w i hi]
 obtain ⟨V,hV,A,hA,hp⟩:=xl.1 (bz (aZ w) i (by rw[eV];exact hi))
 exact ((h.v V hV).2 A hA).2.2 _ hp
theorem WG.ws {w:ah}(h:WG w):WS w:=⟨h.wb,by have:=h.al;rw[eV] at this;exact this,fun i hi=>(h.pg hi).2.1⟩
theorem WG.tx {w:ah}(h:WG w):∀i,i< (aS w).length→(gt (aS w) i).2.2.2.2.1.length≤1000000:=fun i hi=>(h.pg hi).1
theorem WG.id {w:ah}(h:WG w):∀i,i< (aS w).length→c9 (gt (aS w) i).2.1:=fun i hi=>(h.pg hi).2.2
theorem WG.tt {w:ah}(h:WG w):∀v a,v< w.length→a< (gt w v).length→(gt (gt w v) a).1.length≤1000000:=fun v a hv ha=>((h.v _ (bz w v hv)).2 _ (bz _ a ha)).1
theorem F9 {l:List ID}{i k:Nat}(hi:i< k)(hk:k< l.length):List.Sublist [gt l i,gt l k] l:=by
 have h1:List.Sublist [gt l i] (l.take (i+1)):=by
  rw[List.singleton_sublist,←fq l i (by omega)];simp
 have h2:List.Sublist [gt l k] (l.drop (i+1)):=by
  rw[List.singleton_sublist]
  have:gt l k=gt (l.drop (i+1)) (k - (i+1)):=by
   simp only[gt,List.getD,List.getElem?_drop];rw[show i+1+(k - (i+1)) =k by omega]
  rw[this]
  exact bz _ _ (by rw[List.length_drop];omega)
 have:=h1.append h2
 rwa [List.take_append_drop] at this
theorem Ga {l:List ID}(h:l.Nodup){j i:Nat}(hj:j< i)(hi:i< l.length):¬gt l j=gt l i:=fun e=>by
 have h2:=(F9 hj hi).nodup h
 rw[e] at h2;simp at h2
def idk (k:Nat):ID:=(((0:Nat):Int),(k:Int),((0:Nat):Int))
theorem yX (p:aI)(j:Nat)(ps:List aI): (nv p j ps).1=p.1:=by unfold nv;split<;>rfl
theorem He (p:aI)(j:Nat)(ps:List aI): (nv p j ps).2.2=p.2.2:=by unfold nv;split<;>rfl
theorem xm (l:List Int)(n:Nat):∀j,(fB l n j).map (·.1) = (List.range' n j).map idk
 |0=>rfl
 |j+1=>by
  rw[fB,List.map_append,xm l n j,List.range'_concat,List.map_append,Nat.one_mul]
  simp only[List.map_cons,List.map_nil,yX]
  rfl
theorem Hf {α β:Type}(f:α→List β)(l:List α)(x:α): (l++[x]).flatMap f=l.flatMap f++f x:=by rw[List.flatMap_append];simp
theorem xn (l:List Int)(i n:Nat):∀k,n≤(d8 l i n k).2∧(((d8 l i n k).1.flatMap (·.2)).map (·.1)) = (List.range' n ((d8 l i n k).2 - n)).map idk
 |0=>⟨Nat.le_refl _,by simp[d8]⟩
 |k+1=>by
  obtain ⟨h1,h2⟩:=xn l i n k
  refine ⟨Nat.le_trans h1 (Nat.le_add_right ..),?_⟩
  simp only[d8]
  rw[Hf,List.map_append,h2,xm,←List.map_append]
  congr 1
  generalize (d8 l i n k).2=m at h1
  have:=List.range'_append (s:=n) (m:=m - n) (n:=j6 l i k m) (step:=1)
  rw[show n+1*(m - n) =m by omega] at this
  rw[this]
  congr 1;omega
theorem xp (l:List Int):∀i,(((el l i).1.flatMap fun V=>V.flatMap (·.2)).map (·.1)) = (List.range' 0 (el l i).2).map idk
 |0=>rfl
 |i+1=>by
  have h:=xn l i (el l i).2 (1+cK l (1+i) 2)
  simp only[el]
  rw[Hf,List.map_append,xp l i,h.2,←List.map_append]
  congr 1
  have h1:=h.1
  generalize (d8 l i (el l i).2 (1+cK l (1+i) 2)).2=m at h1
  generalize (el l i).2=n at h1
  have:=List.range'_append (s:=0) (m:=n) (n:=m - n) (step:=1)
  rw[show 0+1*n=n by omega] at this
  rw[this]
  congr 1;omega
theorem xq (l:List Int):ey (ib l) = (List.range' 0 (el l (1+cK l 0 4 / 3)).2).map idk:=by
 unfold ey;rw[vg];exact xp l _
theorem KC {a b:Nat}(h:idk a=idk b):a=b:=by
 unfold idk at h
 have:=congrArg (fun x:ID=>x.2.1) h
 simp only[] at this;omega
theorem B7 (l:List Int): (ey (ib l)).Nodup:=by
 rw[xq]
 have h: (List.range' 0 (el l (1+cK l 0 4 / 3)).2).Nodup:=List.nodup_range'
 generalize List.range' 0 (el l (1+cK l 0 4 / 3)).2=r at h
 induction r with
 |nil=>exact List.nodup_nil
 |cons x r ih=>
  rw[List.nodup_cons] at h
  rw[List.map_cons,List.nodup_cons]
  refine ⟨fun hx=>?_,ih h.2⟩
  obtain ⟨y,hy,e⟩:=List.mem_map.1 hx
  rw[KC e] at hy
  exact h.1 hy
theorem B8 (l:List Int): (aZ (ib l)).length≤8:=by
 have:=congrArg List.length (xq l)
 unfold ey at this
 rw[List.length_map,List.length_map,List.length_range'] at this
 rw[this];exact lW l _
theorem KD (l:List Int)(a k:Nat)(h:k< 9):PG (aY l a (idk k))∧(aY l a (idk k)).2.2.2.1.length≤100∧(aY l a (idk k)).2.2.2.2.length≤2:=by
 have h1:=kJ l a (gI l a)
 have h2:=nW l a
 have h3:=mF l a (gI l a)
 refine ⟨⟨?_,?_,?_⟩,?_,?_⟩
 . show (gX l a (gI l a)).length≤_;omega
 . show (jr l a (gI l a)).length≤_;omega
 . refine ⟨⟨?_,?_⟩,⟨?_,?_⟩,?_,?_⟩ <;>simp only[aY,idk] <;>omega
 . show (gX l a (gI l a)).length≤_;omega
 . show (jr l a (gI l a)).length≤_;omega
theorem B9 (l:List Int)(n:Nat):∀j,n+j≤8→∀p,p∈fB l n j→PG p
 |0,_,p,hp=>by cases hp
 |j+1,h,p,hp=>by
  rw[fB,List.mem_append,List.mem_singleton] at hp
  rcases hp with hp|rfl
  . exact B9 l n j (by omega) p hp
  . have:=(KD l (9+4*(n+j)) (n+j) (by omega)).1
    unfold PG at this ⊢
    rw[yX,He];exact this
theorem Ca (l:List Int)(i n:Nat)(h:n≤8):∀k,∀A,A∈ (d8 l i n k).1→A.1.length≤1000000∧A.2.length≤100000∧∀p,p∈A.2→PG p
 |0,A,hA=>by cases hA
 |k+1,A,hA=>by
  simp only[d8] at hA
  rw[List.mem_append,List.mem_singleton] at hA
  rcases hA with hA|rfl
  . exact Ca l i n h k A hA
  . have h1:=lV l i n h k
    have h2:j6 l i k (d8 l i n k).2=min (1+cK l (5+2*i+k) 3) (8 - (d8 l i n k).2):=rfl
    refine ⟨?_,?_,?_⟩
    . have:=(jq l (3+i+k)).2.1;show (fR l (3+i+k)).length≤_;omega
    . show (fB _ _ _).length≤_;rw[kn];omega
    . exact B9 l _ _ (by omega)
theorem Cb (l:List Int):∀i,∀V,V∈ (el l i).1→V.length≤2∧∀A,A∈V→A.1.length≤1000000∧A.2.length≤100000∧∀p,p∈A.2→PG p
 |0,V,hV=>by cases hV
 |i+1,V,hV=>by
  simp only[el] at hV
  rw[List.mem_append,List.mem_singleton] at hV
  rcases hV with hV|rfl
  . exact Cb l i V hV
  . refine ⟨?_,Ca l i _ (lW l i) _⟩
    rw[lU]
    have:=er l (1+i) (m:=2) (by decide);omega
theorem xu (l:List Int): (ib l).length=1+cK l 0 4 / 3:=rG l _
theorem Cc {w:ah}{c:Nat}(h:∀V,V∈w→V.length≤c):∀v,v≤w.length→nA w v≤c*v
 |0,_=>Nat.zero_le _
 |v+1,hv=>by
  rw[FT w v (by omega)]
  have h1:=Cc h v (by omega)
  have h2:=h _ (bz w v (by omega))
  rw[Nat.mul_succ];omega
end Go.Sx
namespace Go.Sx
open Go.RowKit Go.Proofs
set_option maxRecDepth 100000
set_option maxHeartbeats 8000000
end Go.Sx
namespace Go.Sx
open Go.RowKit Go.Proofs
theorem cm {x y:ID}:iD x=iD y↔x=y:=⟨fun h=>Inj.inj _ _ h,fun h=>by rw[h]⟩
theorem cn {x y:aI}:pC x=pC y↔x=y:=⟨fun h=>Inj.inj _ _ h,fun h=>by rw[h]⟩
section
variable {gl:Nat→C} {pu:Nat→List C→Option C}
noncomputable def yY (hgn:∀g,af 0 (gl g) =true):Mk Tryd.prog gl 64 Unit where
 args:=fun _=>[]
 r:=fun _=> .agg [.gv 3 1 (1,46)]
 Y:=fun _=>[some [.gv 3 1 (1,46)],some (cl pC exPs),some [.val (str co),.gv 1 3 (7,37)],some [.gv 2 1 (2,48)]]
 nr:=fun _=>rfl
 inj:=fun _ _ _=>⟨rfl,rfl⟩
 fc:=fun _=>UY (M:=0) (pu:=fun _ _=>none) (CxOK.zero hgn)
noncomputable def Gb (hgn:∀g,af 0 (gl g) =true):Nat→List C→Hp→Option (C×Hp):=(yY hgn).tab (fun _ _ _=>none)
theorem Va (hgn:∀g,af 0 (gl g) =true)(h:CxOK (aD gl 0 pu)):CxOK (ic gl 0 pu (Gb hgn)):=uO (qC h) (yY hgn)
theorem KE (hgn:∀g,af 0 (gl g) =true):∀pre:Hp,OkH pre→Gb hgn 64 [] pre=some (.agg [.gv (pre.length+3) 1 (1,46)],pre++[some [.gv (pre.length+3) 1 (1,46)],some (cl pC exPs),some [.val (str co),.gv (pre.length+1) 3 (7,37)],some [.gv (pre.length+2) 1 (2,48)]]):=fun pre h=>by
 have e:=(yY hgn).look (fun _ _ _=>none) () pre h
 unfold Gb
 refine e.trans ?_
 have e1:∀n,eL n ((yY hgn).Y ()) = [some [.gv (n+3) 1 (1,46)],some (cl pC exPs),some [.val (str co),.gv (n+1) 3 (7,37)],some [.gv (n+2) 1 (2,48)]]:=fun n=>by
  show [_,_,_,_] =_
  simp only[Option.map_some,bkCs,cV,bks_nr _ _ (au pC 0 exPs)]
 rw[e1]
 rfl
end
end Go.Sx
namespace Go.Sx
open Go.RowKit Go.Proofs
set_option maxRecDepth 100000
set_option maxHeartbeats 8000000
def NF (w:ah)(id:ID)(n:Nat):Prop:= ∀j,j< n→¬ (gt (aS w) j).2.1=id
theorem Vh (w:ah)(id:ID):NF w id (oV w 0):=fun j hj=>absurd hj (by rw[Pg];omega)
theorem Vi {w:ah}{id:ID}{v:Nat}(h:NF w id (oV w v)):NF w id (oV w v+oA v (gt w v) 0):=h
theorem Vj {w:ah}{id:ID}{v a:Nat}(h:NF w id (oV w v+oA v (gt w v) a)):NF w id (oV w v+(oA v (gt w v) a+0)):=h
theorem Vk {w:ah}{id:ID}{v a j:Nat}(hv:v< w.length)(ha:a< (gt w v).length)(hj:j< (gt (gt w v) a).2.length)(h:NF w id (oV w v+(oA v (gt w v) a+j)))(hn:¬ (gt (gt (gt w v) a).2 j).1=id):NF w id (oV w v+(oA v (gt w v) a+(j+1))):=fun k hk=>by
 by_cases e:k=oV w v+(oA v (gt w v) a+j)
 . rw[e,(lX w v a j hv ha hj).1];exact hn
 . exact h k (by omega)
theorem Vl {w:ah}{id:ID}{v a:Nat}(h:NF w id (oV w v+(oA v (gt w v) a+(gt (gt w v) a).2.length))):NF w id (oV w v+oA v (gt w v) (a+1)):=by rw[FV];exact h
theorem Vm {w:ah}{id:ID}{v:Nat}(h:NF w id (oV w v+oA v (gt w v) (gt w v).length)):NF w id (oV w (v+1)):=by rw[FY];rw[FW] at h;exact h
theorem Vn {w:ah}{id:ID}(h:NF w id (oV w w.length)):dI w id= ((0,0,0),false):=H8 (by rw[F6] at h;exact h)
theorem KY {w:ah}{id:ID}{v a j:Nat}(hv:v< w.length)(ha:a< (gt w v).length)(hj:j< (gt (gt w v) a).2.length)(h:NF w id (oV w v+(oA v (gt w v) a+j)))(hn: (gt (gt (gt w v) a).2 j).1=id):dI w id= ((v,a,j),true):=by
 have e:=lX w v a j hv ha hj
 have:=H7 (id:=id) e.2 h (by rw[e.1];exact hn)
 rw[this,e.1]
theorem gf {p:Prop}(e:p:=by intro KZ hZ;simp -implicitDefEqProofs (disch:=first|omega| (simp only[go_sem,lA,lD,lT,hw1,hvl,hal] <;>omega) |decide) only[go_sem,↓reduceIte,Nat.reduceEqDiff,reduceCtorEq,Nat.reduceLT,Nat.reduceBEq,Nat.reduceAdd,h60,hy];with_reducible exact hZ):p:=e
theorem P4 {p:Prop}(e:p:=by intro KZ hZ;simp -implicitDefEqProofs (disch:=first|omega| (simp only[go_sem,lA,lD,lT,hw1,hvl,hal] <;>omega) |decide) only[go_sem,↓reduceIte,Nat.reduceEqDiff,reduceCtorEq,Nat.reduceLT,Nat.reduceBEq,Nat.reduceAdd,h60,hy];with_reducible refine And.intro ?_ hZ;first|exact rfl|decide):p:=e
theorem Cs {p:Prop}(e:p:=by simp -implicitDefEqProofs (disch:=first|omega| (simp only[go_sem,lA,lD,lT,hw1,hvl,hal] <;>omega) |decide) only[go_sem,↓reduceIte,Nat.reduceEqDiff,reduceCtorEq];all_goals (first| (rw[hR];done) | (rw[hR];rfl))):p:=e
theorem Vo {gl:Nat→C}{M:Nat}{pu:Nat→List C→Option C}(hcx:CxOK (aD gl M pu))(h60:∀a b:ID,pu 60 [.agg (iD a),.agg (iD b)] =some (.val (.bool (decide (a=b)))))(w:ah)(id:ID)(hw:WB w):FC Tryd.prog gl 33 [.agg [sl vC .no w],.agg (iD id)] [] (.tup [.agg [.val (nI (dI w id).1.1),.val (nI (dI w id).1.2.1),.val (nI (dI w id).1.2.2)],.val (.bool (dI w id).2)]) []:=by
 replace hcx:=hcx.reN (M:=56)
 refine bI (cx:=aD gl 56 pu) (rs:=[.cell 4 60,.tmp 5]) rfl Tryd.func33 rfl rfl rfl (by simp only[List.length_cons,List.length_nil];decide) (by simp only[go_sem]) ?_
 simp only[cZ,go_sem]
 have hy:=True.intro
 have hw1:=hw.1
 have hvl:=True.intro
 have hal:=True.intro
 refine Tr.w hcx [] _ [none,none,none] rfl rfl rfl ?_ gf
 refine ae fun K1 hK1=>?_
 refine Tr.w hcx [] _ [] rfl rfl rfl ?_ gf
 refine Tr.k [2,3,4,6] ?_
 refine am ?_
 refine Tr.k [2,3,4,6] ?_
 refine ab hcx 0 [sl vC .no w] ?_
 refine ab hcx 1 (iD id) ?_
 refine bD hcx [2] ?_
 refine aV (α:=Nat) (fun a=>[(2,?v2_1),(3,?v3_1),(4,?v4_1),(6,.val (nI a))]) (fun a=>[some [.val (nI 0),.val (nI 0),.val (nI 0)]]) (fun a=>a≤w.length∧NF w id (oV w a)) (fun a=>w.length - a) (0) ⟨Nat.zero_le _,Vh w id⟩ ?le_1 ?hh_1 ?bd_1
 case hh_1=>exact rfl
 case le_1=>exact LT
 rintro v ⟨hv0,hF⟩
 refine ae fun K2 hK2=>?_
 refine Tr.w hcx [] _ [] rfl rfl rfl ?_ gf
 refine aw rfl (fun hc14=>?_) (fun hc14=>?_)
 ·
  have hvl:=hw.2.1 v hc14
  refine Tr.skip ?_
  refine hK2 _ ?_
  refine ae fun K3 hK3=>?_
  refine am ?_
  refine Tr.w hcx [] _ [] rfl rfl rfl ?_ gf
  refine Tr.k [2,3,4,6,7] ?_
  refine am ?_
  refine aV (α:=Nat) (fun a=>[(2,?v2_2),(3,?v3_2),(4,?v4_2),(6,?v6_2),(7,.val (nI a))]) (fun a=>[some [.val (nI 0),.val (nI 0),.val (nI 0)]]) (fun a=>a≤(gt w v).length∧NF w id (oV w v+oA v (gt w v) a)) (fun a=>(gt w v).length - a) (0) ⟨Nat.zero_le _,Vi hF⟩ ?le_2 ?hh_2 ?bd_2
  case hh_2=>exact rfl
  case le_2=>exact LT
  rintro k ⟨ha0,hA⟩
  refine ae fun K4 hK4=>?_
  refine Tr.w hcx [] _ [] rfl rfl rfl ?_ gf
  refine aw rfl (fun hc25=>?_) (fun hc25=>?_)
  ·
   have hal:=hw.2.2 v k hc14 hc25
   refine Tr.skip ?_
   refine hK4 _ ?_
   refine ae fun K5 hK5=>?_
   refine am ?_
   refine Tr.w hcx [1000037] _ [] rfl rfl rfl ?_ gf
   refine Tr.w hcx [] _ [] rfl rfl rfl ?_ gf
   refine Tr.k [2,3,4,6,7,8,9] ?_
   refine am ?_
   refine aV (α:=Nat) (fun a=>[(2,?v2_3),(3,?v3_3),(4,?v4_3),(6,?v6_3),(7,?v7_3),(8,?v8_3),(9,.val (nI a))]) (fun a=>[some [.val (nI 0),.val (nI 0),.val (nI 0)]]) (fun a=>a≤(gt (gt w v) k).2.length∧NF w id (oV w v+(oA v (gt w v) k+a))) (fun a=>(gt (gt w v) k).2.length - a) (0) ⟨Nat.zero_le _,Vj hA⟩ ?le_3 ?hh_3 ?bd_3
   case hh_3=>exact rfl
   case le_3=>exact LT
   rintro j ⟨hj0,hJ⟩
   refine ae fun K6 hK6=>?_
   refine Tr.w hcx [] _ [] rfl rfl rfl ?_ gf
   refine aw rfl (fun hc41=>?_) (fun hc41=>?_)
   ·
    refine Tr.skip ?_
    refine hK6 _ ?_
    refine ae fun K7 hK7=>?_
    refine am ?_
    refine fh hcx eG [] _ [] rfl rfl rfl rfl ?_ P4
    refine aw rfl (fun hc50=>?_) (fun hc50=>?_)
    ·
     have hR:=KY hc14 hc25 hc41 hJ hc50
     refine Tr.w hcx [] _ [] rfl rfl rfl ?_ gf
     exact Tr.ret Cs
    refine Tr.skip ?_
    refine hK7 _ ?_
    refine Tr.v hcx [1000043] _ [] rfl rfl rfl ?_ gf
    exact ⟨j+1,⟨⟨by omega,Vk hc14 hc25 hc41 hJ hc50⟩,O1⟩,LT,rfl⟩
   obtain rfl:j= (gt (gt w v) k).2.length:=by omega
   refine Tr.exit ?_
   refine hK5 _ ?_
   refine Tr.v hcx [1000027] _ [] rfl rfl rfl ?_ gf
   exact ⟨k+1,⟨⟨by omega,Vl hJ⟩,O1⟩,LT,rfl⟩
  obtain rfl:k= (gt w v).length:=by omega
  refine Tr.exit ?_
  refine hK3 _ ?_
  refine Tr.v hcx [1000016] _ [] rfl rfl rfl ?_ gf
  exact ⟨v+1,⟨⟨by omega,Vm hA⟩,O1⟩,LT,rfl⟩
 obtain rfl:v=w.length:=by omega
 have hR:=Vn hF
 refine Tr.exit ?_
 refine hK1 _ ?_
 refine Tr.w hcx [] _ [] rfl rfl rfl ?_ gf
 exact Tr.ret Cs
end Go.Sx
namespace Go.Sx
open Go.RowKit
end Go.Sx
namespace Go.Sx
open Go.RowKit Go.Proofs
set_option maxRecDepth 100000
set_option maxHeartbeats 8000000
def fV (n v0 m:Nat)(w:ah):List C:=(cl vC w).set v0 (.gv (n+1) m (2,48))
def fA (n a0 m:Nat)(V:ct):List C:=(cl aC V).set (a0*2+1) (.gv (n+2) m (7,37))
theorem mG {α:Type}(l:List α)(x y:α)(k i:Nat)(h:l.length=i): (l++[x]).set k y=if k=i then l++[y] else l.set k y++[x]:=by
 subst h
 rw[List.set_append]
 split
 . rename_i hk;rw[if_neg (by omega)]
 . rename_i hk
   split
   . rename_i e;subst e;rw[Nat.sub_self];rfl
   . rename_i e
     rw[List.set_eq_of_length_le (by omega:l.length≤k)]
     obtain ⟨d,hd⟩:∃d,k - l.length=d+1:=⟨k - l.length - 1,by omega⟩
     rw[hd];rfl
theorem ta {α:Type}[Inhabited α](f:α→List C)(l:List α)(i:Nat)(h:i< l.length):cl f (l.take (i+1)) =cl f (l.take i)++f (gt l i):=by
 rw[←fq l i h,lE]
 congr 1
 rw[cX];simp[cl]
theorem Pq {n v0 m i:Nat}{w:ah}(h:i< w.length)(c:¬i=v0):fV n v0 m (w.take i)++[sl aC .no (gt w i)] =fV n v0 m (w.take (i+1)):=by
 unfold fV
 rw[ta vC w i h]
 show _= (cl vC (w.take i)++[sl aC .no (gt w i)]).set v0 _
 rw[mG _ _ _ _ i (by rw[aA (f:=vC),List.length_take];omega),if_neg (fun e=>c e.symm)]
theorem Pr {n m i:Nat}{w:ah}(h:i< w.length):fV n i m (w.take i)++[.gv (n+1) m (2,48)] =fV n i m (w.take (i+1)):=by
 unfold fV
 rw[ta vC w i h]
 show _= (cl vC (w.take i)++[sl aC .no (gt w i)]).set i _
 rw[mG _ _ _ _ i (by rw[aA (f:=vC),List.length_take];omega),if_pos rfl,List.set_eq_of_length_le (by rw[aA (f:=vC),List.length_take];omega)]
theorem Ps {n a0 m i:Nat}{V:ct}(h:i< V.length)(c:¬i=a0):fA n a0 m (V.take i)++[.val (str (gt V i).1),sl pC .no (gt V i).2] =fA n a0 m (V.take (i+1)):=by
 unfold fA
 rw[ta aC V i h]
 show _= (cl aC (V.take i)++([C.val (str (gt V i).1)]++[sl pC .no (gt V i).2])).set (a0*2+1) _
 have hl: (cl aC (V.take i)).length=i*2:=by rw[aA (f:=aC),List.length_take];omega
 rw[←List.append_assoc,mG _ _ _ _ (i*2+1) (by rw[List.length_append,hl];rfl),if_neg (by omega)]
 rw[List.set_append]
 split
 . rw[List.append_assoc];rfl
 . rename_i q
   rw[List.set_eq_of_length_le (l:=[C.val (str (gt V i).1)]) (by show 1≤_;omega),List.set_eq_of_length_le (by omega),List.append_assoc];rfl
theorem Pt {n m i:Nat}{V:ct}(h:i< V.length):fA n i m (V.take i)++[.val (str (gt V i).1),.gv (n+2) m (7,37)] =fA n i m (V.take (i+1)):=by
 unfold fA
 rw[ta aC V i h]
 show _= (cl aC (V.take i)++([C.val (str (gt V i).1)]++[sl pC .no (gt V i).2])).set (i*2+1) _
 have hl: (cl aC (V.take i)).length=i*2:=by rw[aA (f:=aC),List.length_take];omega
 rw[←List.append_assoc,mG _ _ _ _ (i*2+1) (by rw[List.length_append,hl];rfl),if_pos rfl,List.set_eq_of_length_le (by omega),List.append_assoc]
 rfl
def bV (n v0 a0 m:Nat)(w:ah)(i:Nat):List C:=if i≤v0 then [] else fA n a0 m (gt w v0)
def bA (v0 a0:Nat)(w:ah)(i:Nat):List C:=if i≤v0 then [] else cl pC (gt (gt w v0) a0).2
def bL (a0:Nat)(V:ct)(k:Nat):List C:=if k≤a0 then [] else cl pC (gt V a0).2
theorem Pu {n v0 a0 m i:Nat}{w:ah}(c:¬i=v0):bV n v0 a0 m w (i+1) =bV n v0 a0 m w i:=by
 unfold bV
 by_cases h:i≤v0
 . rw[if_pos (by omega),if_pos h]
 . rw[if_neg (by omega),if_neg h]
theorem Pv {v0 a0 i:Nat}{w:ah}(c:¬i=v0):bA v0 a0 w (i+1) =bA v0 a0 w i:=by
 unfold bA
 by_cases h:i≤v0
 . rw[if_pos (by omega),if_pos h]
 . rw[if_neg (by omega),if_neg h]
theorem Pw {a0 k:Nat}{V:ct}(c:¬k=a0):bL a0 V (k+1) =bL a0 V k:=by
 unfold bL
 by_cases h:k≤a0
 . rw[if_pos (by omega),if_pos h]
 . rw[if_neg (by omega),if_neg h]
theorem Vb {n i a0 m:Nat}{w:ah}:bV n i a0 m w i= []:=if_pos (Nat.le_refl _)
theorem Vc {i a0:Nat}{w:ah}:bA i a0 w i= []:=if_pos (Nat.le_refl _)
theorem Vd {k:Nat}{V:ct}:bL k V k= []:=if_pos (Nat.le_refl _)
theorem Ve {n i a0 m:Nat}{w:ah}:bV n i a0 m w (i+1) =fA n a0 m (gt w i):=if_neg (by omega)
theorem Vf {i a0:Nat}{w:ah}:bA i a0 w (i+1) =cl pC (gt (gt w i) a0).2:=if_neg (by omega)
theorem Vg {k:Nat}{V:ct}:bL k V (k+1) =cl pC (gt V k).2:=if_neg (by omega)
theorem Gc (x:aI)(l:List ID):m4 (pC x) 6 (sl iD (.own 3) l) =some ((pC x).set 6 (sl iD (.own 3) l),.val undef):=rfl
theorem rI (x:aI)(c:C): ((pC x).set 6 c).set 6 (sl iD .no x.2.2.2.2) =pC x:=rfl
theorem KG (u:TypeDesc)(y:Nat)(t:List UInt8)(b n:Nat)(s:Nat×Nat):gN (some ⟨u,2,y,[str [],.slice none 0 0]⟩) 1 [(0,.agg [.val (str t),.gv b n s])] =some (vp (.sl .full 1 [.val (str t),.gv b n s])):=rfl
theorem KH (u:TypeDesc)(y:Nat)(b n:Nat)(s:Nat×Nat):gN (some ⟨u,1,y,[.slice none 0 0]⟩) 1 [(0,.agg [.gv b n s])] =some (vp (.sl .full 1 [.gv b n s])):=rfl
attribute [go_sem high] Gc KG KH
theorem Px (u:TypeDesc)(b n:Nat)(x y:C)(h:n≤1000000):sD 48 (some ⟨u,2,40,[str [],.slice none 0 0]⟩) (.gv b n (2,48)) (.sl .full 1 [x,y]) =some (.ap (some (b,n)) (2,48) 1 fun _=>some [x,y]):=by
 simp only[sD,if_true,jZ,C.sl?]
 rw[if_pos]
 simp only[decide_eq_true_eq]
 exact ⟨rfl,by decide,rfl,by omega,by omega,rfl⟩
theorem Py (u:TypeDesc)(b n:Nat)(x:C)(h:n≤1000000):sD 46 (some ⟨u,1,24,[.slice none 0 0]⟩) (.gv b n (1,46)) (.sl .full 1 [x]) =some (.ap (some (b,n)) (1,46) 1 fun _=>some [x]):=by
 simp only[sD,if_true,jZ,C.sl?]
 rw[if_pos]
 simp only[decide_eq_true_eq]
 exact ⟨rfl,by decide,rfl,by omega,by omega,rfl⟩
theorem pM {l:List C}(h:aP (some l) =some l)(i b n:Nat)(s:Nat×Nat):aP (some (l.set i (.gv b n s))) =some (l.set i (.gv b n s)):=by
 cases l with
 |nil=>rfl
 |cons x l=>
  cases i with
  |zero=>rfl
  |succ i=>
   cases x with
   |tup xs=>cases h
   |_=>rfl
theorem xw (n v0 m:Nat)(w:ah):aP (some (fV n v0 m w)) =some (fV n v0 m w):=pM (g4 vC w) ..
theorem xx (n v0 m:Nat)(w:ct):aP (some (fA n v0 m w)) =some (fA n v0 m w):=pM (g4 aC w) ..
theorem Cd (n v0 m:Nat)(w:ah): (fV n v0 m w).map C.noR=fV n v0 m w:=by unfold fV;rw[List.map_set,fb];rfl
theorem Ce (n v0 m:Nat)(w:ct): (fA n v0 m w).map C.noR=fA n v0 m w:=by unfold fA;rw[List.map_set,fb];rfl
theorem Pz (n v0 m:Nat)(w:ah): (fV n v0 m w).length=w.length:=by unfold fV;rw[List.length_set,aA (f:=vC),Nat.mul_one]
theorem vh (n v0 m:Nat)(w:ct): (fA n v0 m w).length=w.length*2:=by unfold fA;rw[List.length_set,aA (f:=aC)]
theorem jt (ρ:List Nat)(x:C):∀ (l:List C)(i:Nat),mvCs ρ (l.set i x) = (mvCs ρ l).set i (bj ρ x)
 | [],_=>rfl
 |y::l,0=>rfl
 |y::l,i+1=>by simp only[List.set_cons_succ,mvCs,jt ρ x l i]
theorem tb {ρ:List Nat}{n v0 m:Nat}{w:ah}(h:∀m,bj ρ (.gv (n+1) m (2,48)) = .gv (n+1) m (2,48)):mvCs ρ (fV n v0 m w) =fV n v0 m w:=by unfold fV;rw[jt,bE,h]
theorem qJ {ρ:List Nat}{n v0 m:Nat}{w:ct}(h:∀m,bj ρ (.gv (n+2) m (7,37)) = .gv (n+2) m (7,37)):mvCs ρ (fA n v0 m w) =fA n v0 m w:=by unfold fA;rw[jt,bE,h]
theorem yZ {ρ:List Nat}{n v0 a0 m i:Nat}{w:ah}(h:∀m,bj ρ (.gv (n+2) m (7,37)) = .gv (n+2) m (7,37)):mvCs ρ (bV n v0 a0 m w i) =bV n v0 a0 m w i:=by unfold bV;split;rfl;exact qJ h
theorem y0 {ρ:List Nat}{v0 a0 i:Nat}{w:ah}:mvCs ρ (bA v0 a0 w i) =bA v0 a0 w i:=by unfold bA;split;rfl;exact bE ..
theorem y4 {ρ:List Nat}{a0 i:Nat}{w:ct}:mvCs ρ (bL a0 w i) =bL a0 w i:=by unfold bL;split;rfl;exact bE ..
theorem Cf (n i m:Nat)(w:ah):fV n i m (w.take i) =cl vC (w.take i):=by
 unfold fV;rw[List.set_eq_of_length_le];rw[aA (f:=vC),List.length_take];omega
theorem Cg (n i m:Nat)(w:ct):fA n i m (w.take i) =cl aC (w.take i):=by
 unfold fA;rw[List.set_eq_of_length_le];rw[aA (f:=aC),List.length_take];omega
theorem ja (k:Nat)(x:C)(hx:af k x=true):∀ (l:List C)(i:Nat),noRefs k l=true→noRefs k (l.set i x) =true
 | [],_,h=>h
 |y::l,0,h=>by simp only[List.set_cons_zero,noRefs,Bool.and_eq_true] at h ⊢;exact ⟨hx,h.2⟩
 |y::l,i+1,h=>by simp only[List.set_cons_succ,noRefs,Bool.and_eq_true] at h ⊢;exact ⟨h.1,ja k x hx l i h.2⟩
section
variable (cx:Cx) (apps:List Nat) (dsts:List (Option Nat)) (l:List Oper) (id':Nat) (d:Option Nat) (e:List (Nat×C)) (h:Hp) (fs:List FP) (K:List FP→St→Prop)
theorem ju (b n m k e':Nat)(cells cs:List C)(h1:cells.map C.noR=cells)(h2:cs.map C.noR=cs)(hn:n*k=cells.length)(hm:0< m)(hk:0< k):
 iz cx apps dsts l id' d e h fs K b n (k,e') m cs (some cells) =run cx apps dsts l id' (eT d (.gv h.length (n+m) (k,e')) e) (h.set b (some dT)++[some (cells++cs)]) ((4,0)::fs) K:=by
 have hml:k≤m*k:=by
  have:=Nat.mul_le_mul_right k (show 1≤m by omega)
  omega
 unfold iz
 simp only[]
 rw[if_neg (by rw[←hn,Nat.add_mul];omega),if_pos hn,List.map_append,h1,h2]
theorem Gd (b n:Nat)(V:ct)(t:List UInt8)(b' n':Nat)(s':Nat×Nat)(hn:n*2= (cl aC V).length):iz cx apps dsts l id' d e h fs K b n (2,48) 1 [.val (str t),.gv b' n' s'] (some (cl aC V)) =run cx apps dsts l id' (eT d (.gv h.length (n+1) (2,48)) e) (h.set b (some dT)++[some (cl aC V++[.val (str t),.gv b' n' s'])]) ((4,0)::fs) K:=
 ju cx apps dsts l id' d e h fs K b n 1 2 48 _ _ (fb ..) rfl hn (by decide) (by decide)
theorem Ge (b n:Nat)(V:ah)(b' n':Nat)(s':Nat×Nat)(hn:n*1= (cl vC V).length):iz cx apps dsts l id' d e h fs K b n (1,46) 1 [.gv b' n' s'] (some (cl vC V)) =run cx apps dsts l id' (eT d (.gv h.length (n+1) (1,46)) e) (h.set b (some dT)++[some (cl vC V++[.gv b' n' s'])]) ((4,0)::fs) K:=
 ju cx apps dsts l id' d e h fs K b n 1 1 46 _ _ (fb ..) rfl hn (by decide) (by decide)
theorem Gf (b n:Nat)(n0 a0 m0:Nat)(V:ct)(x:gy)(hn:n*2= (fA n0 a0 m0 V).length):iz cx apps dsts l id' d e h fs K b n (2,48) 1 (cl aC [x]) (some (fA n0 a0 m0 V)) =run cx apps dsts l id' (eT d (.gv h.length (n+1) (2,48)) e) (h.set b (some dT)++[some (fA n0 a0 m0 V++[.val (str x.1),sl pC .no x.2])]) ((4,0)::fs) K:=
 ju cx apps dsts l id' d e h fs K b n 1 2 48 _ _ (Ce ..) rfl hn (by decide) (by decide)
theorem Gg (b n:Nat)(n0 a0 m0:Nat)(V:ah)(x:ct)(hn:n*1= (fV n0 a0 m0 V).length):iz cx apps dsts l id' d e h fs K b n (1,46) 1 (cl vC [x]) (some (fV n0 a0 m0 V)) =run cx apps dsts l id' (eT d (.gv h.length (n+1) (1,46)) e) (h.set b (some dT)++[some (fV n0 a0 m0 V++[sl aC .no x])]) ((4,0)::fs) K:=
 ju cx apps dsts l id' d e h fs K b n 1 1 46 _ _ (Cd ..) rfl hn (by decide) (by decide)
end
theorem kM (ρ:List Nat)(r:List C):∀l:List C,mvCs ρ (l++r) =mvCs ρ l++mvCs ρ r
 | [] =>rfl
 |x::l=>by simp only[List.cons_append,mvCs,kM ρ r l]
theorem Sy (t:List UInt8)(n:Nat):mvCs [0,7,2,3,4,5] [.val (str t),.gv 2 n (7,37)] = [.val (str t),.gv 2 n (7,37)]:=rfl
theorem Sz (t:List UInt8)(l:List aI):mvCs [0,7,2,3,4,5] [.val (str t),sl pC .no l] = [.val (str t),sl pC .no l]:=by simp only[mvCs,db,bj]
theorem SA (n:Nat):mvCs [6,1,2,3,4] [.gv 1 n (2,48)] = [.gv 1 n (2,48)]:=rfl
theorem SB (l:ct):mvCs [6,1,2,3,4] [sl aC .no l] = [sl aC .no l]:=by simp only[mvCs,db]
theorem PA (a0:Nat)(V:ct):bL a0 V V.length=cl pC (gt V a0).2:=by
 unfold bL
 split
 . rename_i h
   have:gt V a0=default:=by unfold gt List.getD;rw[List.getElem?_eq_none h];rfl
   rw[this];rfl
 . rfl
theorem PB (n v0 a0 m:Nat)(w:ah):bV n v0 a0 m w w.length=fA n a0 m (gt w v0):=by
 unfold bV
 split
 . rename_i h
   have:gt w v0=default:=by unfold gt List.getD;rw[List.getElem?_eq_none h];rfl
   rw[this];rfl
 . rfl
theorem PC (v0 a0:Nat)(w:ah):bA v0 a0 w w.length=cl pC (gt (gt w v0) a0).2:=by
 unfold bA
 split
 . rename_i h
   have:gt w v0=default:=by unfold gt List.getD;rw[List.getElem?_eq_none h];rfl
   rw[this];rfl
 . rfl
attribute [go_sem] xw xx Cd Ce Pz vh Px Py Gd Ge Gf Gg
theorem bf {p:Prop}(e:p:=by intro KZ hZ;simp -implicitDefEqProofs (maxSteps:=2000000) (disch:=first|omega| (simp only[go_sem,lA,lD,lT,hVl,hLl,hwl,List.length_take] <;>omega) |decide) only[go_sem,↓reduceIte,Nat.reduceEqDiff,reduceCtorEq,Nat.reduceLT,Nat.reduceBEq,Nat.reduceAdd,hVx,hLx,c1,c2,hy];with_reducible exact hZ):p:=e
theorem KI {p:Prop}(e:p:=by simp -implicitDefEqProofs (disch:=first|omega| (simp only[go_sem,lA,lD,lT,hVl,hLl,hwl,List.length_take] <;>omega) |decide) only[go_sem,↓reduceIte,Nat.reduceEqDiff,reduceCtorEq];all_goals (rfl)):p:=e
theorem SC {gl:Nat→C}{M:Nat}{pu:Nat→List C→Option C}(hcx:CxOK (aD gl M pu))(w:ah)(v0 a0:Nat)(hw:WG w):FC Tryd.prog gl 20 [.agg [sl vC .no w]] [] (.agg [.gv 0 w.length (1,46)]) [some (fV 0 v0 (gt w v0).length w),some (fA 0 a0 (gt (gt w v0) a0).2.length (gt w v0)),some (cl pC (gt (gt w v0) a0).2),some [.gv 0 w.length (1,46)]]:=by
 replace hcx:=hcx.reN (M:=87)
 refine Bc (cx:=aD gl 87 pu) (rs:=[.cell 2 29]) rfl Tryd.func20 rfl rfl rfl (by simp only[List.length_cons,List.length_nil];decide) ?_
 simp only[cZ,go_sem]
 have c1:=True.intro
 have c2:=True.intro
 have hy:=True.intro
 have hwl:=hw.n
 have hVx:=True.intro
 have hLx:=True.intro
 have hVl:=True.intro
 have hLl:=True.intro
 refine Tr.w hcx [] _ [none,none] rfl rfl rfl ?_ bf
 refine ab hcx 0 [sl vC .no w] ?_
 refine Tr.w hcx [] _ [none] rfl rfl rfl ?_ bf
 refine ae fun K1 hK1=>?_
 refine Tr.w hcx [] _ [] rfl rfl rfl ?_ bf
 refine Tr.k [1,2,3,4] ?_
 refine am ?_
 refine Tr.k [1,2,3,4] ?_
 refine bD hcx [1,2] ?_
 refine Tr.virt ?_
 refine Tr.virt ?_
 refine Tr.virt ?_
 simp only[List.cons_append,List.nil_append]
 refine Tr.bxc 1 0 (.gv 2 0 (1,46)) _ rfl rfl (mr ..) rfl ?_
 simp only[List.set_cons_succ,List.set_cons_zero]
 refine bD hcx [2,3,4,0,1] ?_
 refine aV (α:=Nat) (fun a=>[(1,?v1_1),(2,?v2_1),(3,?v3_1),(4,.val (nI a))]) (fun a=>[some (fV 0 v0 (gt w v0).length (w.take a)),some (bV 0 v0 a0 (gt (gt w v0) a0).2.length w a),some (bA v0 a0 w a),some [.val (.slice none 0 0)],some [.gv 0 a (1,46)]]) (fun a=>a≤w.length) (fun a=>w.length - a) (0) (Nat.zero_le _) ?le_1 ?hh_1 ?bd_1
 case hh_1=>exact rfl
 case le_1=>exact LT
 rintro i hi
 refine ae fun K2 hK2=>?_
 refine Tr.w hcx [] _ [] rfl rfl rfl ?_ bf
 refine aw rfl (fun hc15=>?_) (fun hc15=>?_)
 ·
  obtain ⟨V,hV⟩:∃V,gt w i=V:=⟨_,rfl⟩
  have hVx:=hV
  have hwv:=(hw.v _ (bz w i hc15))
  rw[hV] at hwv
  have hVl:=hwv.1
  refine Tr.skip ?_
  refine hK2 _ ?_
  refine ae fun K3 hK3=>?_
  refine am ?_
  by_cases c1:i=v0
  ·
   subst c1
   have c1:=True.intro
   simp only[Vb,Vc,Cf,hV]
   refine Tr.w hcx [] _ [none] rfl rfl rfl ?_ bf
   refine ae fun K4 hK4=>?_
   refine Tr.w hcx [] _ [] rfl rfl rfl ?_ bf
   refine Tr.k [1,2,3,4,5,6] ?_
   refine am ?_
   refine Tr.bxc 5 0 (.gv 1 0 (2,48)) _ rfl rfl (mr ..) rfl ?_
   simp only[List.set_cons_succ,List.set_cons_zero]
   refine aV (α:=Nat) (fun a=>[(1,?v1_2),(2,?v2_2),(3,?v3_2),(4,?v4_2),(5,?v5_2),(6,.val (nI a))]) (fun a=>[some (cl vC (w.take i)),some (fA 0 a0 (gt V a0).2.length (V.take a)),some (bL a0 V a),some [.val (.slice none 0 0)],some [.gv 0 i (1,46)],some [.gv 1 a (2,48)]]) (fun a=>a≤V.length) (fun a=>V.length - a) (0) (Nat.zero_le _) ?le_2 ?hh_2 ?bd_2
   case hh_2=>exact rfl
   case le_2=>exact LT
   rintro k hk
   refine ae fun K5 hK5=>?_
   refine Tr.w hcx [] _ [] rfl rfl rfl ?_ bf
   refine aw rfl (fun hc26=>?_) (fun hc26=>?_)
   ·
    obtain ⟨L,hL⟩:∃L,(gt V k).2=L:=⟨_,rfl⟩
    have hLx:=hL
    have hwa:=hwv.2 _ (bz V k hc26)
    rw[hL] at hwa
    have hLl:=hwa.2.1
    refine Tr.skip ?_
    refine hK5 _ ?_
    refine Tr.k [1,2,3,4,5,6] ?_
    refine ae fun K6 hK6=>?_
    refine am ?_
    by_cases c2:k=a0
    ·
     subst c2
     have c2:=True.intro
     simp only[Vd,Cg,hL]
     skip
     refine Tr.w hcx [] _ [none] rfl rfl rfl ?_ bf
     refine Tr.k [1,2,3,4,5,6,7] ?_
     refine Tr.w hcx [1000049] _ [] rfl rfl rfl ?_ bf
     refine ae fun K7 hK7=>?_
     refine Tr.w hcx [] _ [] rfl rfl rfl ?_ bf
     refine Tr.k [1,2,3,4,5,6,7,8,9] ?_
     refine am ?_
     refine Tr.bxc 6 1 (.gv 2 0 (7,37)) _ rfl rfl (mr ..) rfl ?_
     simp only[List.set_cons_succ,List.set_cons_zero]
     refine aV (α:=Nat) (fun a=>[(1,?v1_3),(2,?v2_3),(3,?v3_3),(4,?v4_3),(5,?v5_3),(6,?v6_3),(7,?v7_3),(8,?v8_3),(9,.val (nI a))]) (fun a=>[some (cl vC (w.take i)),some (cl aC (V.take k)),some (cl pC (L.take a)),some [.val (.slice none 0 0)],some [.gv 0 i (1,46)],some [.gv 1 k (2,48)],some [.val (str (gt V k).1),.gv 2 a (7,37)]]) (fun a=>a≤L.length) (fun a=>L.length - a) (0) (Nat.zero_le _) ?le_3 ?hh_3 ?bd_3
     case hh_3=>exact rfl
     case le_3=>exact LT
     rintro j hj
     refine ae fun K8 hK8=>?_
     refine Tr.w hcx [] _ [] rfl rfl rfl ?_ bf
     refine aw rfl (fun hc53=>?_) (fun hc53=>?_)
     ·
      have hPg:=(hwa.2.2 _ (bz L j hc53)).2.1
      refine Tr.skip ?_
      refine hK8 _ ?_
      refine ae fun K9 hK9=>?_
      refine am ?_
      refine Tr.w hcx [] _ [none] rfl rfl rfl ?_ bf
      refine Tr.w hcx [60] _ [] rfl rfl rfl ?_ bf
      refine Tr.k [1,2,3,4,5,6,7,8,9,10] ?_
      refine Tr.bxc 7 6 (sl iD .no (gt L j).2.2.2.2) ((pC (gt L j)).set 6 (sl iD (.own 3) (gt L j).2.2.2.2)) rfl rfl (CLe.noR (sl iD (.own 3) _)) rfl ?_
      simp only[rI]
      simp only[List.set_cons_succ,List.set_cons_zero]
      refine qn hcx [72] [69] _ [] rfl rfl rfl ?_ bf
      refine hK9 _ ?_
      refine Tr.k [1,2,3,4,5,6,7,8,9] ?_
      refine bD hcx [0,1,8,3,4,5,6] ?_
      refine Tr.v hcx [1000055] _ [] rfl rfl rfl ?_ bf
      exact ⟨j+1,⟨(by omega),O1⟩,LT,by simp only[fq L _ hc53,List.length_take,Nat.min_eq_left (show j+1≤L.length by omega)]⟩
     refine Tr.exit ?_
     refine hK7 _ ?_
     obtain rfl:j=L.length:=by omega
     rw[List.take_length]
     refine qn hcx [78] [75] _ [] rfl rfl rfl ?_ bf
     refine hK6 _ ?_
     refine Tr.k [1,2,3,4,5,6] ?_
     refine bD hcx [0,7,2,3,4,5] ?_
     simp only[kM,bE,Sy]
     refine Tr.v hcx [1000028] _ [] rfl rfl rfl ?_ bf
     exact ⟨k+1,⟨(by omega),O1⟩,LT,by simp only[←Pt hc26,Vg,Cg,hLx] <;>rfl⟩
    skip
    skip
    refine Tr.w hcx [] _ [none] rfl rfl rfl ?_ bf
    refine Tr.k [1,2,3,4,5,6,7] ?_
    refine Tr.w hcx [1000049] _ [] rfl rfl rfl ?_ bf
    refine ae fun K10 hK10=>?_
    refine Tr.w hcx [] _ [] rfl rfl rfl ?_ bf
    refine Tr.k [1,2,3,4,5,6,7,8,9] ?_
    refine am ?_
    refine Tr.bxc 6 1 (sl pC (.own 7) []) _ rfl rfl (bH rfl) rfl ?_
    simp only[List.set_cons_succ,List.set_cons_zero]
    refine aV (α:=Nat) (fun a=>[(1,?v1_4),(2,?v2_4),(3,?v3_4),(4,?v4_4),(5,?v5_4),(6,?v6_4),(7,?v7_4),(8,?v8_4),(9,.val (nI a))]) (fun a=>[some (cl vC (w.take i)),some (fA 0 a0 (gt V a0).2.length (V.take k)),some (bL a0 V k),some [.val (.slice none 0 0)],some [.gv 0 i (1,46)],some [.gv 1 k (2,48)],some [.val (str (gt V k).1),sl pC (.own 7) (L.take a)]]) (fun a=>a≤L.length) (fun a=>L.length - a) (0) (Nat.zero_le _) ?le_4 ?hh_4 ?bd_4
    case hh_4=>exact rfl
    case le_4=>exact LT
    rintro j hj
    refine ae fun K11 hK11=>?_
    refine Tr.w hcx [] _ [] rfl rfl rfl ?_ bf
    refine aw rfl (fun hc53=>?_) (fun hc53=>?_)
    ·
     have hPg:=(hwa.2.2 _ (bz L j hc53)).2.1
     refine Tr.skip ?_
     refine hK11 _ ?_
     refine ae fun K12 hK12=>?_
     refine am ?_
     refine Tr.w hcx [] _ [none] rfl rfl rfl ?_ bf
     refine Tr.w hcx [60] _ [] rfl rfl rfl ?_ bf
     refine Tr.k [1,2,3,4,5,6,7,8,9,10] ?_
     refine Tr.bxc 7 6 (sl iD .no (gt L j).2.2.2.2) ((pC (gt L j)).set 6 (sl iD (.own 3) (gt L j).2.2.2.2)) rfl rfl (CLe.noR (sl iD (.own 3) _)) rfl ?_
     simp only[rI]
     simp only[List.set_cons_succ,List.set_cons_zero]
     refine Tr.v hcx [69] _ [] rfl rfl rfl ?_ bf
     refine hK12 _ ?_
     refine Tr.k [1,2,3,4,5,6,7,8,9] ?_
     refine bD hcx [0,1,2,3,4,5,6] ?_
     simp only[qJ (ρ:=[0,1,2,3,4,5,6]) (n:=0) (fun _=>rfl),y4 (ρ:=[0,1,2,3,4,5,6])]
     refine Tr.v hcx [1000055] _ [] rfl rfl rfl ?_ bf
     exact ⟨j+1,⟨(by omega),O1⟩,LT,by simp only[←fq L _ hc53] <;>rfl⟩
    refine Tr.exit ?_
    refine hK10 _ ?_
    obtain rfl:j=L.length:=by omega
    rw[List.take_length]
    refine qn hcx [78] [75] _ [] rfl rfl rfl ?_ bf
    refine hK6 _ ?_
    refine Tr.k [1,2,3,4,5,6] ?_
    refine bD hcx [0,7,2,3,4,5] ?_
    simp only[kM,Sz,y4,qJ (ρ:=[0,7,2,3,4,5]) (n:=0) (fun _=>rfl)]
    refine Tr.v hcx [1000028] _ [] rfl rfl rfl ?_ bf
    exact ⟨k+1,⟨(by omega),O1⟩,LT,by simp only[←Ps hc26 c2,Pw c2,hLx] <;>rfl⟩
   refine Tr.exit ?_
   refine hK4 _ ?_
   obtain rfl:k=V.length:=by omega
   rw[List.take_length]
   refine qn hcx [84] [81] _ [] rfl rfl rfl ?_ bf
   refine hK3 _ ?_
   refine Tr.k [1,2,3,4] ?_
   refine bD hcx [6,1,2,3,4] ?_
   simp only[kM,bE,SA,y4,qJ (ρ:=[6,1,2,3,4]) (n:=0) (fun _=>rfl)]
   refine Tr.v hcx [1000017] _ [] rfl rfl rfl ?_ bf
   exact ⟨i+1,⟨(by omega),O1⟩,LT,by simp only[←Pr hc15,Ve,Vf,Cf,PA,hVx] <;>rfl⟩
  skip
  refine Tr.w hcx [] _ [none] rfl rfl rfl ?_ bf
  refine ae fun K13 hK13=>?_
  refine Tr.w hcx [] _ [] rfl rfl rfl ?_ bf
  refine Tr.k [1,2,3,4,5,6] ?_
  refine am ?_
  refine Tr.bxc 5 0 (sl aC (.own 2) []) _ rfl rfl (bH rfl) rfl ?_
  simp only[List.set_cons_succ,List.set_cons_zero]
  refine aV (α:=Nat) (fun a=>[(1,?v1_5),(2,?v2_5),(3,?v3_5),(4,?v4_5),(5,?v5_5),(6,.val (nI a))]) (fun a=>[some (fV 0 v0 (gt w v0).length (w.take i)),some (bV 0 v0 a0 (gt (gt w v0) a0).2.length w i),some (bA v0 a0 w i),some [.val (.slice none 0 0)],some [.gv 0 i (1,46)],some [sl aC (.own 2) (V.take a)]]) (fun a=>a≤V.length) (fun a=>V.length - a) (0) (Nat.zero_le _) ?le_5 ?hh_5 ?bd_5
  case hh_5=>exact rfl
  case le_5=>exact LT
  rintro k hk
  refine ae fun K14 hK14=>?_
  refine Tr.w hcx [] _ [] rfl rfl rfl ?_ bf
  refine aw rfl (fun hc26=>?_) (fun hc26=>?_)
  ·
   obtain ⟨L,hL⟩:∃L,(gt V k).2=L:=⟨_,rfl⟩
   have hLx:=hL
   have hwa:=hwv.2 _ (bz V k hc26)
   rw[hL] at hwa
   have hLl:=hwa.2.1
   refine Tr.skip ?_
   refine hK14 _ ?_
   refine Tr.k [1,2,3,4,5,6] ?_
   refine ae fun K15 hK15=>?_
   refine am ?_
   have c2:=True.intro
   refine Tr.w hcx [] _ [none] rfl rfl rfl ?_ bf
   refine Tr.k [1,2,3,4,5,6,7] ?_
   refine Tr.w hcx [1000049] _ [] rfl rfl rfl ?_ bf
   refine ae fun K16 hK16=>?_
   refine Tr.w hcx [] _ [] rfl rfl rfl ?_ bf
   refine Tr.k [1,2,3,4,5,6,7,8,9] ?_
   refine am ?_
   refine Tr.bxc 6 1 (sl pC (.own 7) []) _ rfl rfl (bH rfl) rfl ?_
   simp only[List.set_cons_succ,List.set_cons_zero]
   refine aV (α:=Nat) (fun a=>[(1,?v1_6),(2,?v2_6),(3,?v3_6),(4,?v4_6),(5,?v5_6),(6,?v6_6),(7,?v7_6),(8,?v8_6),(9,.val (nI a))]) (fun a=>[some (fV 0 v0 (gt w v0).length (w.take i)),some (bV 0 v0 a0 (gt (gt w v0) a0).2.length w i),some (bA v0 a0 w i),some [.val (.slice none 0 0)],some [.gv 0 i (1,46)],some [sl aC (.own 2) (V.take k)],some [.val (str (gt V k).1),sl pC (.own 7) (L.take a)]]) (fun a=>a≤L.length) (fun a=>L.length - a) (0) (Nat.zero_le _) ?le_6 ?hh_6 ?bd_6
   case hh_6=>exact rfl
   case le_6=>exact LT
   rintro j hj
   refine ae fun K17 hK17=>?_
   refine Tr.w hcx [] _ [] rfl rfl rfl ?_ bf
   refine aw rfl (fun hc53=>?_) (fun hc53=>?_)
   ·
    have hPg:=(hwa.2.2 _ (bz L j hc53)).2.1
    refine Tr.skip ?_
    refine hK17 _ ?_
    refine ae fun K18 hK18=>?_
    refine am ?_
    refine Tr.w hcx [] _ [none] rfl rfl rfl ?_ bf
    refine Tr.w hcx [60] _ [] rfl rfl rfl ?_ bf
    refine Tr.k [1,2,3,4,5,6,7,8,9,10] ?_
    refine Tr.bxc 7 6 (sl iD .no (gt L j).2.2.2.2) ((pC (gt L j)).set 6 (sl iD (.own 3) (gt L j).2.2.2.2)) rfl rfl (CLe.noR (sl iD (.own 3) _)) rfl ?_
    simp only[rI]
    simp only[List.set_cons_succ,List.set_cons_zero]
    refine Tr.v hcx [69] _ [] rfl rfl rfl ?_ bf
    refine hK18 _ ?_
    refine Tr.k [1,2,3,4,5,6,7,8,9] ?_
    refine bD hcx [0,1,2,3,4,5,6] ?_
    simp only[tb (ρ:=[0,1,2,3,4,5,6]) (n:=0) (fun _=>rfl),yZ (ρ:=[0,1,2,3,4,5,6]) (n:=0) (fun _=>rfl),y0 (ρ:=[0,1,2,3,4,5,6])]
    refine Tr.v hcx [1000055] _ [] rfl rfl rfl ?_ bf
    exact ⟨j+1,⟨(by omega),O1⟩,LT,by simp only[←fq L _ hc53] <;>rfl⟩
   refine Tr.exit ?_
   refine hK16 _ ?_
   obtain rfl:j=L.length:=by omega
   rw[List.take_length]
   refine Tr.v hcx [75] _ [] rfl rfl rfl ?_ bf
   refine hK15 _ ?_
   refine Tr.k [1,2,3,4,5,6] ?_
   refine bD hcx [0,1,2,3,4,5] ?_
   simp only[tb (ρ:=[0,1,2,3,4,5]) (n:=0) (fun _=>rfl),yZ (ρ:=[0,1,2,3,4,5]) (n:=0) (fun _=>rfl),y0 (ρ:=[0,1,2,3,4,5])]
   refine Tr.v hcx [1000028] _ [] rfl rfl rfl ?_ bf
   exact ⟨k+1,⟨(by omega),O1⟩,LT,by simp only[←fq V _ hc26,←hL] <;>rfl⟩
  refine Tr.exit ?_
  refine hK13 _ ?_
  obtain rfl:k=V.length:=by omega
  rw[List.take_length]
  refine qn hcx [84] [81] _ [] rfl rfl rfl ?_ bf
  refine hK3 _ ?_
  refine Tr.k [1,2,3,4] ?_
  refine bD hcx [6,1,2,3,4] ?_
  simp only[kM,SB,y0,yZ (ρ:=[6,1,2,3,4]) (n:=0) (fun _=>rfl),tb (ρ:=[6,1,2,3,4]) (n:=0) (fun _=>rfl)]
  refine Tr.v hcx [1000017] _ [] rfl rfl rfl ?_ bf
  exact ⟨i+1,⟨(by omega),O1⟩,LT,by simp only[←Pq hc15 c1,Pu c1,Pv c1,hVx] <;>rfl⟩
 refine Tr.exit ?_
 refine hK1 _ ?_
 obtain rfl:i=w.length:=by omega
 rw[List.take_length]
 refine Tr.w hcx [] _ [] rfl rfl rfl ?_ bf
 refine Tr.k [2] ?_
 refine bD hcx [0,1,2,3] ?_
 simp only[PB,PC]
 simp only[tb (ρ:=[0,1,2,3]) (n:=0) (fun _=>rfl),qJ (ρ:=[0,1,2,3]) (n:=0) (fun _=>rfl),bE]
 exact Tr.ret KI
end Go.Sx
namespace Go.Sx
open Go.RowKit Go.Proofs
set_option maxRecDepth 100000
set_option maxHeartbeats 8000000
theorem kc {l:List C}{k:Nat}{x:C}(h:k< l.length)(hx:x.noR=x):dJ (l.set k x) k=some x:=by
 unfold dJ;rw[List.getElem?_set_self h];simp[hx]
theorem qK {l:List C}{k j:Nat}{x:C}(h:¬j=k):dJ (l.set k x) j=dJ l j:=by
 unfold dJ;rw[List.getElem?_set_ne (fun e=>h e.symm)]
theorem nB {n m i:Nat}{w:ah}(h:i< w.length):dJ (fV n i m w) i=some (.gv (n+1) m (2,48)):=kc (by rw[aA (f:=vC),Nat.mul_one];exact h) rfl
theorem Ch {n v0 m i:Nat}{w:ah}(h:i< w.length)(c:¬i=v0):dJ (fV n v0 m w) i=some (sl aC .no (gt w i)):=(qK c).trans (qB w i h)
theorem sK {n m k:Nat}{V:ct}(h:k< V.length):dJ (fA n k m V) (k*2+1) =some (.gv (n+2) m (7,37)):=kc (by rw[aA (f:=aC)];omega) rfl
theorem Ci {n a0 m k:Nat}{V:ct}(h:k< V.length)(c:¬k=a0):dJ (fA n a0 m V) (k*2+1) =some (sl pC .no (gt V k).2):=(qK (by omega)).trans (qA V k h)
theorem SD (k n v0 m:Nat)(w:ah)(h:n+1< k):noRefs k (fV n v0 m w) =true:=ja k _ (by simp[af,h]) _ _ (au vC k w)
theorem SE (k n v0 m:Nat)(w:ct)(h:n+2< k):noRefs k (fA n v0 m w) =true:=ja k _ (by simp[af,h]) _ _ (au aC k w)
theorem rJ {v0 m a0 m2:Nat}(w:ah)(V:ct)(l:List aI)(k:Nat)(h:2< k):iX k [some (fV 0 v0 m w),some (fA 0 a0 m2 V),some (cl pC l)] =true:=by
 simp only[iX,SD k 0 v0 m w (by omega),SE k 0 a0 m2 V (by omega),au pC k l,Bool.and_self]
theorem eC {p:Prop}(e:p:=by intro KZ hZ;simp -implicitDefEqProofs (maxSteps:=2000000) (disch:=first|omega| (simp only[go_sem,lA,lD,lT,hVl,hwl] <;>omega) |decide) only[go_sem,↓reduceIte,Nat.reduceEqDiff,reduceCtorEq,Nat.reduceLT,Nat.reduceBEq,Nat.reduceAdd,hVV,hR,hR2,c1,c2,hy];with_reducible exact hZ):p:=e
theorem KJ {p:Prop}(e:p:=by simp -implicitDefEqProofs (disch:=first|omega| (simp only[go_sem,lA,lD,lT,hVl,hwl] <;>omega) |decide) only[go_sem,↓reduceIte,Nat.reduceEqDiff,reduceCtorEq];all_goals (exact ⟨rfl,rfl⟩)):p:=e
theorem SF {gl:Nat→C}{M:Nat}{pu:Nat→List C→Option C}(hcx:CxOK (aD gl M pu))(w:ah)(v0 a0:Nat)(hw:WG w):FC Tryd.prog gl 14 [.agg [.gv 0 w.length (1,46)]] [some (fV 0 v0 (gt w v0).length w),some (fA 0 a0 (gt (gt w v0) a0).2.length (gt w v0)),some (cl pC (gt (gt w v0) a0).2)] (sl pC (.own 7) (aZ w)) [some (fV 0 v0 (gt w v0).length w),some (fA 0 a0 (gt (gt w v0) a0).2.length (gt w v0)),some (cl pC (gt (gt w v0) a0).2)]:=by
 replace hcx:=hcx.reN (M:=37)
 refine uH (cx:=aD gl 37 pu) (rs:=[.tmp 2]) rfl Tryd.func14 rfl rfl rfl (by simp only[List.length_cons,List.length_nil];decide) (by simp only[go_sem]) (rJ _ _ _ 3 (by decide)) ?_
 simp only[cZ,go_sem]
 have c1:=True.intro
 have c2:=True.intro
 have hy:=True.intro
 have hwl:=hw.n
 have hal:=hw.al
 have hVV:=True.intro
 have hVl:=True.intro
 have hR:=True.intro
 have hR2:=True.intro
 refine Tr.w hcx [] _ [none] rfl rfl rfl ?_ eC
 refine Tr.w hcx [] _ [] rfl rfl rfl ?_ eC
 refine ae fun K1 hK1=>?_
 refine Tr.w hcx [] _ [] rfl rfl rfl ?_ eC
 refine Tr.k [1,3,4] ?_
 refine am ?_
 refine aV (α:=Nat) (fun a=>[(1,?v1_1),(3,sl pC (.own 7) (pV w a)),(4,.val (nI a))]) (fun a=>[some (fV 0 v0 (gt w v0).length w),some (fA 0 a0 (gt (gt w v0) a0).2.length (gt w v0)),some (cl pC (gt (gt w v0) a0).2),some [.gv 0 w.length (1,46)]]) (fun a=>a≤w.length) (fun a=>w.length - a) (0) (Nat.zero_le _) ?le_1 ?hh_1 ?bd_1
 case hh_1=>exact rfl
 case le_1=>exact LT
 rintro v hv
 have hp:=qF w v
 refine ae fun K2 hK2=>?_
 refine Tr.w hcx [] _ [] rfl rfl rfl ?_ eC
 refine aw rfl (fun hc10=>?_) (fun hc10=>?_)
 ·
  obtain ⟨V,hV⟩:∃V,gt w v=V:=⟨_,rfl⟩
  have hVV:=hV
  have hwv:=hw.v _ (bz w v hc10)
  rw[hV] at hwv
  have hVl:=hwv.1
  refine Tr.skip ?_
  refine hK2 _ ?_
  refine ae fun K3 hK3=>?_
  refine am ?_
  by_cases c1:v=v0
  ·
   subst c1
   have c1:=True.intro
   simp only[hV]
   have hR:=nB (n:=0) (m:=V.length) hc10
   refine Tr.w hcx [] _ [] rfl rfl rfl ?_ eC
   refine Tr.k [1,3,4,5] ?_
   refine am ?_
   refine aV (α:=Nat) (fun a=>[(1,?v1_2),(3,sl pC (.own 7) (pV w v++pA V a)),(4,?v4_2),(5,.val (nI a))]) (fun a=>[some (fV 0 v V.length w),some (fA 0 a0 (gt V a0).2.length V),some (cl pC (gt V a0).2),some [.gv 0 w.length (1,46)]]) (fun a=>a≤V.length) (fun a=>V.length - a) (0) (Nat.zero_le _) ?le_2 ?hh_2 ?bd_2
   case hh_2=>exact rfl
   case le_2=>(simp only[bQ,bl,↓bF,↓reduceIte,Nat.reduceEqDiff,ba,br,bc,bu,bv,and_true,true_and];all_goals (repeat' first|exact CLe.refl _|exact True.intro| (refine bH ?_;first|rfl| (simp only[List.take_zero];done)) |exact cU (by omega) |exact cM (by omega) |exact cN (by omega) |exact cO (by omega) |with_reducible apply And.intro));all_goals (first|exact CLe.refl _| (rw[show pA V 0= [] from rfl,List.append_nil];exact CLe.refl _))
   rintro k hk
   have hp2:=nu w v (k+1) hc10
   rw[hV] at hp2
   refine ae fun K4 hK4=>?_
   refine Tr.w hcx [] _ [] rfl rfl rfl ?_ eC
   refine aw rfl (fun hc21=>?_) (fun hc21=>?_)
   ·
    have hAk:=(hwv.2 _ (bz V k hc21)).2.1
    rw[lj V k hc21,List.length_append] at hp2
    refine Tr.skip ?_
    refine hK4 _ ?_
    refine ae fun K5 hK5=>?_
    refine am ?_
    by_cases c2:k=a0
    ·
     subst c2
     have c2:=True.intro
     have hR2:=sK (n:=0) (m:=(gt V k).2.length) hc21
     skip
     refine Tr.v hcx [24,1000035] _ [] rfl rfl rfl ?_ eC
     refine hK5 _ ?_
     refine Tr.k [1,3,4,5] ?_
     refine Tr.v hcx [1000023] _ [] rfl rfl rfl ?_ eC
     refine ⟨k+1,⟨(by omega),O1⟩,?_,rfl⟩
     (simp only[bQ,bl,↓bF,↓reduceIte,Nat.reduceEqDiff,ba,br,bc,bu,bv,and_true,true_and];all_goals (repeat' first|exact CLe.refl _|exact True.intro| (refine bH ?_;first|rfl| (simp only[List.take_zero];done)) |exact cU (by omega) |exact cM (by omega) |exact cN (by omega) |exact cO (by omega) |with_reducible apply And.intro))
     all_goals (first| (rw[lj V k hc21,List.append_assoc];exact CLe.refl _) |exact CLe.refl _)
    have hR2:=Ci (n:=0) (m:=(gt V a0).2.length) hc21 c2
    skip
    refine Tr.v hcx [24,1000035] _ [] rfl rfl rfl ?_ eC
    refine hK5 _ ?_
    refine Tr.k [1,3,4,5] ?_
    refine Tr.v hcx [1000023] _ [] rfl rfl rfl ?_ eC
    refine ⟨k+1,⟨(by omega),O1⟩,?_,rfl⟩
    (simp only[bQ,bl,↓bF,↓reduceIte,Nat.reduceEqDiff,ba,br,bc,bu,bv,and_true,true_and];all_goals (repeat' first|exact CLe.refl _|exact True.intro| (refine bH ?_;first|rfl| (simp only[List.take_zero];done)) |exact cU (by omega) |exact cM (by omega) |exact cN (by omega) |exact cO (by omega) |with_reducible apply And.intro))
    all_goals (first| (rw[lj V k hc21,List.append_assoc];exact CLe.refl _) |exact CLe.refl _)
   obtain rfl:k=V.length:=by omega
   refine Tr.exit ?_
   refine hK3 _ ?_
   refine Tr.v hcx [1000012] _ [] rfl rfl rfl ?_ eC
   refine ⟨v+1,⟨(by omega),O1⟩,?_,by simp only[hV]⟩
   (simp only[bQ,bl,↓bF,↓reduceIte,Nat.reduceEqDiff,ba,br,bc,bu,bv,and_true,true_and];all_goals (repeat' first|exact CLe.refl _|exact True.intro| (refine bH ?_;first|rfl| (simp only[List.take_zero];done)) |exact cU (by omega) |exact cM (by omega) |exact cN (by omega) |exact cO (by omega) |with_reducible apply And.intro))
   all_goals (first| (rw[pI w v hc10,hV];exact CLe.refl _) |exact CLe.refl _)
  have hR:=Ch (n:=0) (m:=(gt w v0).length) hc10 c1
  rw[hV] at hR
  refine Tr.w hcx [] _ [] rfl rfl rfl ?_ eC
  refine Tr.k [1,3,4,5] ?_
  refine am ?_
  refine aV (α:=Nat) (fun a=>[(1,?v1_3),(3,sl pC (.own 7) (pV w v++pA V a)),(4,?v4_3),(5,.val (nI a))]) (fun a=>[some (fV 0 v0 (gt w v0).length w),some (fA 0 a0 (gt (gt w v0) a0).2.length (gt w v0)),some (cl pC (gt (gt w v0) a0).2),some [.gv 0 w.length (1,46)]]) (fun a=>a≤V.length) (fun a=>V.length - a) (0) (Nat.zero_le _) ?le_3 ?hh_3 ?bd_3
  case hh_3=>exact rfl
  case le_3=>(simp only[bQ,bl,↓bF,↓reduceIte,Nat.reduceEqDiff,ba,br,bc,bu,bv,and_true,true_and];all_goals (repeat' first|exact CLe.refl _|exact True.intro| (refine bH ?_;first|rfl| (simp only[List.take_zero];done)) |exact cU (by omega) |exact cM (by omega) |exact cN (by omega) |exact cO (by omega) |with_reducible apply And.intro));all_goals (first|exact CLe.refl _| (rw[show pA V 0= [] from rfl,List.append_nil];exact CLe.refl _))
  rintro k hk
  have hp2:=nu w v (k+1) hc10
  rw[hV] at hp2
  refine ae fun K6 hK6=>?_
  refine Tr.w hcx [] _ [] rfl rfl rfl ?_ eC
  refine aw rfl (fun hc21=>?_) (fun hc21=>?_)
  ·
   have hAk:=(hwv.2 _ (bz V k hc21)).2.1
   rw[lj V k hc21,List.length_append] at hp2
   refine Tr.skip ?_
   refine hK6 _ ?_
   refine ae fun K7 hK7=>?_
   refine am ?_
   have c2:=True.intro
   refine Tr.v hcx [24,1000035] _ [] rfl rfl rfl ?_ eC
   refine hK7 _ ?_
   refine Tr.k [1,3,4,5] ?_
   refine Tr.v hcx [1000023] _ [] rfl rfl rfl ?_ eC
   refine ⟨k+1,⟨(by omega),O1⟩,?_,rfl⟩
   (simp only[bQ,bl,↓bF,↓reduceIte,Nat.reduceEqDiff,ba,br,bc,bu,bv,and_true,true_and];all_goals (repeat' first|exact CLe.refl _|exact True.intro| (refine bH ?_;first|rfl| (simp only[List.take_zero];done)) |exact cU (by omega) |exact cM (by omega) |exact cN (by omega) |exact cO (by omega) |with_reducible apply And.intro))
   all_goals (first| (rw[lj V k hc21,List.append_assoc];exact CLe.refl _) |exact CLe.refl _)
  obtain rfl:k=V.length:=by omega
  refine Tr.exit ?_
  refine hK3 _ ?_
  refine Tr.v hcx [1000012] _ [] rfl rfl rfl ?_ eC
  refine ⟨v+1,⟨(by omega),O1⟩,?_,rfl⟩
  (simp only[bQ,bl,↓bF,↓reduceIte,Nat.reduceEqDiff,ba,br,bc,bu,bv,and_true,true_and];all_goals (repeat' first|exact CLe.refl _|exact True.intro| (refine bH ?_;first|rfl| (simp only[List.take_zero];done)) |exact cU (by omega) |exact cM (by omega) |exact cN (by omega) |exact cO (by omega) |with_reducible apply And.intro))
  all_goals (first| (rw[pI w v hc10,hV];exact CLe.refl _) |exact CLe.refl _)
 obtain rfl:v=w.length:=by omega
 rw[←lS]
 refine Tr.exit ?_
 refine hK1 _ ?_
 refine Tr.w hcx [1000036] _ [] rfl rfl rfl ?_ eC
 exact Tr.ret KJ
end Go.Sx
namespace Go.Sx
open Go.RowKit Go.Proofs
set_option maxRecDepth 100000
set_option maxHeartbeats 8000000
theorem vi {l:List C}{k:Nat}{x:C}(h:k< l.length)(hx:x.noR=x):fG (l.set k x) k 1=some (.agg [x]):=by
 unfold fG
 rw[if_pos (by rw[List.length_set];omega),List.drop_eq_getElem_cons (by rw[List.length_set];exact h),List.take_succ_cons,List.take_zero,List.getElem_set_self]
 simp[hx]
theorem Cj {n m i:Nat}{w:ah}(h:i< w.length):fG (fV n i m w) i 1=some (.agg [.gv (n+1) m (2,48)]):=vi (by rw[aA (f:=vC),Nat.mul_one];exact h) rfl
end Go.Sx
