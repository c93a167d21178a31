/-
   And what follows.
-/
import Derived.Test.YtcpdlhgkdogdjaaDoorPan
import Derived.Test.YtcpdlhgkdogdjaaDoorPak
set_option linter.unusedSimpArgs false
set_option linter.unusedVariables false
namespace Go.Sx
open Go.RowKit Go.Proofs
set_option maxRecDepth 100000
set_option maxHeartbeats 8000000
theorem Ku (u:TypeDesc)(y:Nat)(t:List UInt8)(l:List aI):gN (some ⟨u,2,y,[str [],.slice none 0 0]⟩) 1 [(0,.agg [.val (str t),sl pC .no l])] =some (vp (sl aC .full [(t,l)])):=rfl
theorem Kv (u:TypeDesc)(y:Nat)(l:ct):gN (some ⟨u,1,y,[.slice none 0 0]⟩) 1 [(0,.agg [sl aC .no l])] =some (vp (sl vC .full [l])):=rfl
theorem FK (x:aI)(n:Nat):dP (pC x) 3 [.val (nI n)] =some (pC (x.1,(n:Int),x.2.2),.val undef):=rfl
attribute [go_sem high] Ku Kv FK
def nv (p:aI)(j:Nat)(ps:List aI):aI:=if p.2.1= ((1:Nat):Int)∧(j=0∨(gt ps (j - 1)).2.1= ((2:Nat):Int)) then (p.1,((0:Nat):Int),p.2.2) else p
def fB (l:List Int)(n:Nat):Nat→List aI
 |0=>[]
 |j+1=>fB l n j++[nv (aY l (9+4*(n+j)) (((0:Nat):Int),((n+j:Nat):Int),((0:Nat):Int))) j (fB l n j)]
theorem kn (l:List Int)(n:Nat):∀j,(fB l n j).length=j
 |0=>rfl
 |j+1=>by simp[fB,kn l n j]
def j6 (l:List Int)(i k n:Nat):Nat:=min (1+cK l (5+2*i+k) 3) (8 - n)
def d8 (l:List Int)(i n:Nat):Nat→List gy×Nat
 |0=>([],n)
 |k+1=>((d8 l i n k).1++[(fR l (3+i+k),fB l (d8 l i n k).2 (j6 l i k (d8 l i n k).2))],(d8 l i n k).2+j6 l i k (d8 l i n k).2)
theorem lU (l:List Int)(i n:Nat):∀k,(d8 l i n k).1.length=k
 |0=>rfl
 |k+1=>by simp[d8,lU l i n k]
theorem lV (l:List Int)(i n:Nat)(h:n≤8):∀k,(d8 l i n k).2≤8
 |0=>h
 |k+1=>by
  have:=lV l i n h k
  simp only[d8,j6];omega
def el (l:List Int):Nat→List ct×Nat
 |0=>([],0)
 |i+1=>((el l i).1++[(d8 l i (el l i).2 (1+cK l (1+i) 2)).1],(d8 l i (el l i).2 (1+cK l (1+i) 2)).2)
theorem rG (l:List Int):∀i,(el l i).1.length=i
 |0=>rfl
 |i+1=>by simp[el,rG l i]
theorem lW (l:List Int):∀i,(el l i).2≤8
 |0=>Nat.zero_le _
 |i+1=>lV l i _ (lW l i) _
def ib (l:List Int):ah:=(el l (1+cK l 0 4 / 3)).1
theorem yP {p:aI}{j:Nat}{ps:List aI}(h:p.2.1= ((1:Nat):Int))(h2:j=0∨(gt ps (j - 1)).2.1= ((2:Nat):Int)):nv p j ps= (p.1,((0:Nat):Int),p.2.2):=if_pos ⟨h,h2⟩
theorem yQ {p:aI}{j:Nat}{ps:List aI}(h:¬ (p.2.1= ((1:Nat):Int)∧(j=0∨(gt ps (j - 1)).2.1= ((2:Nat):Int)))):nv p j ps=p:=if_neg h
theorem FL (n:Nat):max n 0=n:=Nat.max_eq_left (Nat.zero_le n)
theorem bU {p:Prop}(e:p:=by intro KZ hZ;simp -implicitDefEqProofs (maxSteps:=2000000) (disch:=first|omega| (simp only[go_sem,lA,lD,lT,hx1,hx2,hx3,hx4,hx5,hx6] <;>omega) |decide) only[go_sem,↓reduceIte,Nat.reduceEqDiff,reduceCtorEq,Nat.reduceLT,Nat.reduceBEq,Nat.reduceAdd,e65,e66,e21,hPx,FL,c4,c5,c1,c2,c3,hy];with_reducible exact hZ):p:=e
theorem OX {p:Prop}(e:p:=by simp -implicitDefEqProofs (disch:=first|omega| (simp only[go_sem,lA,lD,lT,hx1,hx2,hx3,hx4,hx5,hx6] <;>omega) |decide) only[go_sem,↓reduceIte,Nat.reduceEqDiff,reduceCtorEq];all_goals (rfl)):p:=e
theorem UR {gl:Nat→C}{M:Nat}{pu:Nat→List C→Option C}(hcx:CxOK (aD gl M pu))(h65:∀ (l:List Int) (i m:Nat),LI l→i≤1000000∧0< m∧m≤9223372036854775807→pu 65 [sl iC .no l,.val (nI i),.val (nI m)] =some (.val (nI (cK l i m))))(h66:∀ (l:List Int) (k:Nat),LI l→k≤1000→pu 66 [sl iC .no l,.val (nI k)] =some (.val (str (fR l k))))(h21:∀ (l:List Int) (k:Nat) (id:ID),LI l→k≤900→pu 21 [sl iC .no l,.val (nI k),.agg (iD id)] =some (.agg (pC (aY l k id))))(l:List Int)(hl:LI l):FC Tryd.prog gl 18 [sl iC .no l] [] (.agg [sl vC .no (ib l)]) []:=by
 replace hcx:=hcx.reN (M:=104)
 refine bI (cx:=aD gl 104 pu) (rs:=[.cell 2 29]) rfl Tryd.func18 rfl rfl rfl (by simp only[List.length_cons,List.length_nil];decide) (by simp only[go_sem]) ?_
 simp only[cZ,go_sem]
 have c4:=True.intro
 have c5:=True.intro
 have c1:=True.intro
 have c2:=True.intro
 have c3:=True.intro
 have hy:=True.intro
 have e65:=fun i m h=>h65 l i m hl h
 have e66:=fun k h=>h66 l k hl h
 have e21:∀k n:Nat,k≤900→pu 21 [sl iC .no l,.val (nI k),.agg [.val (nI 0),.val (nI n),.val (nI 0)]] =some (.agg (pC (aY l k (((0:Nat):Int),(n:Int),((0:Nat):Int))))):=fun k n h=>h21 l k (((0:Nat):Int),(n:Int),((0:Nat):Int)) hl h
 have hA:=er l 0 (m:=4) (by decide)
 have hx1:=True.intro
 have hx2:=True.intro
 have hx3:=True.intro
 have hx4:=True.intro
 have hx5:=True.intro
 have hx6:=True.intro
 have hPx:=True.intro
 refine Tr.w hcx [] _ [none] rfl rfl rfl ?_ bU
 refine Tr.w hcx [] _ [none] rfl rfl rfl ?_ bU
 refine Tr.w hcx [] _ [] rfl rfl rfl ?_ bU
 refine Tr.w hcx [1000017] _ [] rfl rfl rfl ?_ bU
 refine ae fun K1 hK1=>?_
 refine Tr.w hcx [] _ [] rfl rfl rfl ?_ bU
 refine Tr.k [0,2,3,4,5,6] ?_
 refine am ?_
 refine Tr.bxc 1 0 (sl vC (.own 1) []) _ rfl rfl (bH rfl) rfl ?_
 simp only[List.set_cons_succ,List.set_cons_zero]
 refine aV (α:=Nat) (fun a=>[(0,?v0_1),(2,?v2_1),(3,?v3_1),(4,.val (nI (el l a).2)),(5,?v5_1),(6,.val (nI a))]) (fun a=>[some [.val (.slice none 0 0)],some [sl vC (.own 1) (el l a).1]]) (fun a=>a≤1+cK l 0 4 / 3) (fun a=>1+cK l 0 4 / 3 - a) (0) (Nat.zero_le _) ?le_1 ?hh_1 ?bd_1
 case hh_1=>exact rfl
 case le_1=>exact LT
 rintro i hi
 have hx1:=rG l i
 have hx2:=lW l i
 have hB:=er l (1+i) (m:=2) (by decide)
 refine ae fun K2 hK2=>?_
 refine Tr.w hcx [] _ [] rfl rfl rfl ?_ bU
 refine aw rfl (fun hc20=>?_) (fun hc20=>?_)
 ·
  refine Tr.skip ?_
  refine hK2 _ ?_
  refine ae fun K3 hK3=>?_
  refine am ?_
  refine Tr.w hcx [] _ [none] rfl rfl rfl ?_ bU
  refine Tr.w hcx [1000027] _ [] rfl rfl rfl ?_ bU
  refine ae fun K4 hK4=>?_
  refine Tr.w hcx [] _ [] rfl rfl rfl ?_ bU
  refine Tr.k [0,2,3,4,5,6,7,8,9] ?_
  refine am ?_
  refine Tr.bxc 2 0 (sl aC (.own 2) []) _ rfl rfl (bH rfl) rfl ?_
  simp only[List.set_cons_succ,List.set_cons_zero]
  refine aV (α:=Nat) (fun a=>[(0,?v0_2),(2,?v2_2),(3,?v3_2),(4,.val (nI (d8 l i (el l i).2 a).2)),(5,?v5_2),(6,?v6_2),(7,?v7_2),(8,?v8_2),(9,.val (nI a))]) (fun a=>[some [.val (.slice none 0 0)],some [sl vC (.own 1) (el l i).1],some [sl aC (.own 2) (d8 l i (el l i).2 a).1]]) (fun a=>a≤1+cK l (1+i) 2) (fun a=>1+cK l (1+i) 2 - a) (0) (Nat.zero_le _) ?le_2 ?hh_2 ?bd_2
  case hh_2=>exact rfl
  case le_2=>exact LT
  rintro k hk
  have hx3:=lU l i (el l i).2 k
  have hx4:=lV l i (el l i).2 hx2 k
  have hC:=er l (5+2*i+k) (m:=3) (by decide)
  refine ae fun K5 hK5=>?_
  refine Tr.w hcx [] _ [] rfl rfl rfl ?_ bU
  refine aw rfl (fun hc30=>?_) (fun hc30=>?_)
  ·
   refine Tr.skip ?_
   refine hK5 _ ?_
   refine ae fun K6 hK6=>?_
   refine am ?_
   refine Tr.w hcx [] _ [none] rfl rfl rfl ?_ bU
   refine Tr.k [0,2,3,4,5,6,7,8,9,10] ?_
   refine Tr.w hcx [1000047] _ [] rfl rfl rfl ?_ bU
   refine ae fun K7 hK7=>?_
   refine Tr.w hcx [] _ [] rfl rfl rfl ?_ bU
   refine Tr.k [0,2,3,4,5,6,7,8,9,10,11,12] ?_
   refine am ?_
   have hN:j6 l i k (d8 l i (el l i).2 k).2=min (1+cK l (5+2*i+k) 3) (8 - (d8 l i (el l i).2 k).2):=rfl
   refine Tr.bxc 3 1 (sl pC (.own 7) []) _ rfl rfl (bH rfl) rfl ?_
   simp only[List.set_cons_succ,List.set_cons_zero]
   refine aV (α:=Nat) (fun a=>[(0,?v0_3),(2,?v2_3),(3,?v3_3),(4,.val (nI ((d8 l i (el l i).2 k).2+a))),(5,?v5_3),(6,?v6_3),(7,?v7_3),(8,?v8_3),(9,?v9_3),(10,?v10_3),(11,?v11_3),(12,.val (nI a))]) (fun a=>[some [.val (.slice none 0 0)],some [sl vC (.own 1) (el l i).1],some [sl aC (.own 2) (d8 l i (el l i).2 k).1],some [.val (str (fR l (3+i+k))),sl pC (.own 7) (fB l (d8 l i (el l i).2 k).2 a)]]) (fun a=>a≤j6 l i k (d8 l i (el l i).2 k).2) (fun a=>j6 l i k (d8 l i (el l i).2 k).2 - a) (0) (Nat.zero_le _) ?le_3 ?hh_3 ?bd_3
   case hh_3=>exact rfl
   case le_3=>exact LT
   rintro j hj
   have hx5:=kn l (d8 l i (el l i).2 k).2 j
   obtain ⟨n,hn⟩:∃n,(d8 l i (el l i).2 k).2=n:=⟨_,rfl⟩
   refine ae fun K8 hK8=>?_
   by_cases c4:j< 1+cK l (5+2*i+k) 3
   ·
    by_cases c5: (d8 l i (el l i).2 k).2+j< 8
    ·
     skip
     refine Tr.w hcx [] [some 48,some 49,some 50,some 51,some 52,some 53,some 54] [] rfl rfl rfl ?_ bU
     refine bn rfl ?_
     refine Tr.skip ?_
     refine hK8 _ ?_
     refine Tr.k [0,2,3,4,5,6,7,8,9,10,11,12] ?_
     refine ae fun K9 hK9=>?_
     refine am ?_
     obtain ⟨P,hPP⟩:∃P,aY l (9+4*((d8 l i (el l i).2 k).2+j)) (((0:Nat):Int),(((d8 l i (el l i).2 k).2+j:Nat):Int),((0:Nat):Int)) =P:=⟨_,rfl⟩
     have hPx:=hPP
     refine Tr.w hcx [] _ [none] rfl rfl rfl ?_ bU
     refine Tr.k [0,2,3,4,5,6,7,8,9,10,11,12,13] ?_
     refine ae fun K10 hK10=>?_
     by_cases c1:P.2.1= ((1:Nat):Int)
     ·
      have c1o:=c1
      replace c1:=eq_true c1
      by_cases c2:j=0
      ·
       have c2o:=c2
       replace c2:=eq_true c2
       refine Tr.w hcx [] [some 64,some 65,some 66,some 67,some 68,some 69,some 70,some 71,some 72,some 73,some 74,some 75,some 76,some 77,some 78,some 79,some 80,some 81] [] rfl rfl rfl ?_ bU
       refine Tr.k [0,2,3,4,5,6,7,8,9,10,11,12,13,81] ?_
       refine bn rfl ?_
       refine Tr.v hcx [] _ [] rfl rfl rfl ?_ bU
       refine hK10 _ ?_
       refine Tr.w hcx [84] _ [] rfl rfl rfl ?_ bU
       refine Tr.v hcx [1000090] _ [] rfl rfl rfl ?_ bU
       refine hK9 _ ?_
       refine Tr.k [0,2,3,4,5,6,7,8,9,10,11,12] ?_
       refine Tr.k [0,2,3,4,5,6,7,8,9,10,11,12] ?_
       refine bD hcx [0,1,2,3] ?_
       refine Tr.v hcx [1000056] _ [] rfl rfl rfl ?_ bU
       exact ⟨j+1,⟨(by omega),O1⟩,LT,by simp only[fB,hPP];rw[yP c1o (by first|exact .inl c2o|exact .inr c3o)] <;>rfl⟩
      have c2o:=c2
      replace c2:=eq_false c2
      by_cases c3: (gt (fB l (d8 l i (el l i).2 k).2 j) (j - 1)).2.1= ((2:Nat):Int)
      ·
       have c3o:=c3
       replace c3:=eq_true c3
       refine Tr.w hcx [] [some 64,some 65,some 66,some 67,some 68,some 69,some 70,some 71,some 72,some 73,some 74,some 75,some 76,some 77,some 78,some 79,some 80,some 81] [] rfl rfl rfl ?_ bU
       refine Tr.k [0,2,3,4,5,6,7,8,9,10,11,12,13,81] ?_
       refine bn rfl ?_
       refine Tr.v hcx [] _ [] rfl rfl rfl ?_ bU
       refine hK10 _ ?_
       refine Tr.w hcx [84] _ [] rfl rfl rfl ?_ bU
       refine Tr.v hcx [1000090] _ [] rfl rfl rfl ?_ bU
       refine hK9 _ ?_
       refine Tr.k [0,2,3,4,5,6,7,8,9,10,11,12] ?_
       refine Tr.k [0,2,3,4,5,6,7,8,9,10,11,12] ?_
       refine bD hcx [0,1,2,3] ?_
       refine Tr.v hcx [1000056] _ [] rfl rfl rfl ?_ bU
       exact ⟨j+1,⟨(by omega),O1⟩,LT,by simp only[fB,hPP];rw[yP c1o (by first|exact .inl c2o|exact .inr c3o)] <;>rfl⟩
      have c3o:=c3
      replace c3:=eq_false c3
      refine Tr.w hcx [] [some 64,some 65,some 66,some 67,some 68,some 69,some 70,some 71,some 72,some 73,some 74,some 75,some 76,some 77,some 78,some 79,some 80,some 81] [] rfl rfl rfl ?_ bU
      refine Tr.k [0,2,3,4,5,6,7,8,9,10,11,12,13,81] ?_
      refine aO rfl ?_
      refine Tr.skip ?_
      refine hK10 _ ?_
      refine Tr.w hcx [84] _ [] rfl rfl rfl ?_ bU
      refine Tr.v hcx [1000090] _ [] rfl rfl rfl ?_ bU
      refine hK9 _ ?_
      refine Tr.k [0,2,3,4,5,6,7,8,9,10,11,12] ?_
      refine bD hcx [0,1,2,3] ?_
      refine Tr.v hcx [1000056] _ [] rfl rfl rfl ?_ bU
      exact ⟨j+1,⟨(by omega),O1⟩,LT,by simp only[fB,hPP];rw[yQ (p:=P) (j:=j) (by rintro ⟨q1,q2⟩;first|exact c1o q1|exact q2.elim c2o c3o)] <;>rfl⟩
     have c1o:=c1
     replace c1:=eq_false c1
     refine Tr.w hcx [] [some 64,some 65,some 66,some 67,some 68,some 69,some 70,some 71,some 72,some 73,some 74,some 75,some 76,some 77,some 78,some 79,some 80,some 81] [] rfl rfl rfl ?_ bU
     refine Tr.k [0,2,3,4,5,6,7,8,9,10,11,12,13,81] ?_
     refine aO rfl ?_
     refine Tr.skip ?_
     refine hK10 _ ?_
     refine Tr.w hcx [84] _ [] rfl rfl rfl ?_ bU
     refine Tr.v hcx [1000090] _ [] rfl rfl rfl ?_ bU
     refine hK9 _ ?_
     refine Tr.k [0,2,3,4,5,6,7,8,9,10,11,12] ?_
     refine bD hcx [0,1,2,3] ?_
     refine Tr.v hcx [1000056] _ [] rfl rfl rfl ?_ bU
     exact ⟨j+1,⟨(by omega),O1⟩,LT,by simp only[fB,hPP];rw[yQ (p:=P) (j:=j) (by rintro ⟨q1,q2⟩;first|exact c1o q1|exact q2.elim c2o c3o)] <;>rfl⟩
    skip
    refine Tr.w hcx [] [some 48,some 49,some 50,some 51,some 52,some 53,some 54] [] rfl rfl rfl ?_ bU
    refine aO rfl ?_
    refine Tr.exit ?_
    refine hK7 _ ?_
    obtain rfl:j=j6 l i k (d8 l i (el l i).2 k).2:=by omega
    refine Tr.v hcx [92] _ [] rfl rfl rfl ?_ bU
    refine hK6 _ ?_
    refine Tr.k [0,2,3,4,5,6,7,8,9] ?_
    refine Tr.k [0,2,3,4,5,6,7,8,9] ?_
    refine bD hcx [0,1,2] ?_
    refine Tr.v hcx [1000032] _ [] rfl rfl rfl ?_ bU
    exact ⟨k+1,⟨(by omega),O1⟩,LT,rfl⟩
   have c5:=True.intro
   refine Tr.w hcx [] [some 48,some 49,some 50,some 51,some 52,some 53,some 54] [] rfl rfl rfl ?_ bU
   refine aO rfl ?_
   refine Tr.exit ?_
   refine hK7 _ ?_
   obtain rfl:j=j6 l i k (d8 l i (el l i).2 k).2:=by omega
   refine Tr.v hcx [92] _ [] rfl rfl rfl ?_ bU
   refine hK6 _ ?_
   refine Tr.k [0,2,3,4,5,6,7,8,9] ?_
   refine Tr.k [0,2,3,4,5,6,7,8,9] ?_
   refine bD hcx [0,1,2] ?_
   refine Tr.v hcx [1000032] _ [] rfl rfl rfl ?_ bU
   exact ⟨k+1,⟨(by omega),O1⟩,LT,rfl⟩
  refine Tr.exit ?_
  refine hK4 _ ?_
  obtain rfl:k=1+cK l (1+i) 2:=by omega
  refine Tr.v hcx [98] _ [] rfl rfl rfl ?_ bU
  refine hK3 _ ?_
  refine Tr.k [0,2,3,4,5,6] ?_
  refine bD hcx [0,1] ?_
  refine Tr.v hcx [1000022] _ [] rfl rfl rfl ?_ bU
  exact ⟨i+1,⟨(by omega),O1⟩,LT,rfl⟩
 refine Tr.exit ?_
 refine hK1 _ ?_
 obtain rfl:i=1+cK l 0 4 / 3:=by omega
 refine Tr.w hcx [] _ [] rfl rfl rfl ?_ bU
 exact Tr.ret OX
end Go.Sx
namespace Go.Sx
open Go.RowKit Go.Proofs
set_option maxRecDepth 100000
set_option maxHeartbeats 8000000
def gz (x:ID):Bool:=decide (0≤x.1∧x.1< 6∧0≤x.2.1∧x.2.1≤63∧0≤x.2.2∧x.2.2< 1024)
def jf (x:ID):Bool:=decide (x= (-1,0,0)) ||gz x
def dL (p:aI):Bool:=gz p.1 && decide (0≤p.2.1∧p.2.1< 4∧0≤p.2.2.1∧p.2.2.1< 4) && decide (cC p.2.2.2.1=0) && decide ((cG p.2.2.2.1).length=p.2.2.2.2.length) && p.2.2.2.2.all jf
def fP (s:List UInt8):Bool:=decide (cC s=0) && decide ((cG s).length=0)
theorem iw {α:Type}[Inhabited α]{l:List α}{p:α→Bool}(h:∀j,j< l.length→p (gt l j) =true):l.all p=true:=by
 rw[List.all_eq_true]
 intro x hx
 obtain ⟨j,hj,rfl⟩:=List.getElem_of_mem hx
 have:=h j hj
 simpa[gt,List.getD,List.getElem?_eq_getElem hj] using this
theorem gF {α:Type}[Inhabited α]{l:List α}{p:α→Bool}{j:Nat}(hj:j< l.length)(h:p (gt l j) =false):l.all p=false:=by
 rw[List.all_eq_false]
 exact ⟨_,List.getElem_mem hj,by simpa[gt,List.getD,List.getElem?_eq_getElem hj] using h⟩
theorem k6 (s:List UInt8): (cG s).length≤s.length:=Nat.le_trans (Ih 3 (dO s)) (jp s)
theorem BV {p:aI}(h:gz p.1=false):dL p=false:=by unfold dL;rw[h];rfl
theorem jR {p:aI}(h:¬ (0≤p.2.1∧p.2.1< 4∧0≤p.2.2.1∧p.2.2.1< 4)):dL p=false:=by unfold dL;rw[decide_eq_false h];simp
theorem BW {p:aI}(h:¬cC p.2.2.2.1=0):dL p=false:=by unfold dL;rw[decide_eq_false h];simp
theorem BX {p:aI}(h:¬ (cG p.2.2.2.1).length=p.2.2.2.2.length):dL p=false:=by unfold dL;rw[decide_eq_false h];simp
theorem BY {p:aI}(h:p.2.2.2.2.all jf=false):dL p=false:=by unfold dL;rw[h];simp
theorem u0 {p:aI}(h0:gz p.1=true)(h:0≤p.2.1∧p.2.1< 4∧0≤p.2.2.1∧p.2.2.1< 4)(h5:cC p.2.2.2.1=0)(h6: (cG p.2.2.2.1).length=p.2.2.2.2.length)(h7:p.2.2.2.2.all jf=true):dL p=true:=by
 unfold dL;rw[h0,decide_eq_true h,decide_eq_true h5,decide_eq_true h6,h7];rfl
theorem Ha {x:ID}(h:x= (-1,0,0)):jf x=true:=by unfold jf;rw[decide_eq_true h];rfl
theorem Hb {x:ID}(h:gz x=true):jf x=true:=by unfold jf;rw[h];simp
theorem Sq {x:ID}(h:¬x= (-1,0,0))(h2:gz x=false):jf x=false:=by unfold jf;rw[decide_eq_false h,h2];rfl
theorem jS {p:Prop}(e:p:=by intro KZ hZ;simp -implicitDefEqProofs (disch:=first|omega| (simp only[go_sem,lA,lD,lT] <;>omega) |decide) only[go_sem,↓reduceIte,Nat.reduceEqDiff,reduceCtorEq,Nat.reduceLT,Nat.reduceBEq,Nat.reduceAdd,c1,c2,c3,c4,c5,c6,hy];with_reducible exact hZ):p:=e
theorem kK {p:Prop}(e:p:=by simp -implicitDefEqProofs (disch:=first|omega| (simp only[go_sem,lA,lD,lT] <;>omega) |decide) only[go_sem,↓reduceIte,Nat.reduceEqDiff,reduceCtorEq];all_goals (exact congrArg (fun z=>some (C.val (.bool z))) (by unfold gz;first| (symm;rw[decide_eq_true_iff];omega) | (symm;rw[decide_eq_false_iff_not];omega)))):p:=e
theorem US {gl:Nat→C}{M:Nat}{pu:Nat→List C→Option C}(hcx:CxOK (aD gl M pu))(x:ID):FC Tryd.prog gl 94 [.agg (iD x)] [] (.val (.bool (gz x))) []:=by
 replace hcx:=hcx.reN (M:=31)
 refine bI (cx:=aD gl 31 pu) (rs:=[.tmp 2]) rfl Tryd.func94 rfl rfl rfl (by simp only[List.length_cons,List.length_nil];decide) (by simp only[go_sem]) ?_
 simp only[cZ,go_sem]
 have c1:=True.intro
 have c2:=True.intro
 have c3:=True.intro
 have c4:=True.intro
 have c5:=True.intro
 have c6:=True.intro
 have hy:=True.intro
 refine Tr.w hcx [] _ [none] rfl rfl rfl ?_ jS
 refine Tr.k [1] ?_
 by_cases c1: ((0:Nat):Int)≤x.1
 ·
  have c1o:=c1
  replace c1:=eq_true c1
  by_cases c2:x.1< ((6:Nat):Int)
  ·
   have c2o:=c2
   replace c2:=eq_true c2
   by_cases c3: ((0:Nat):Int)≤x.2.1
   ·
    have c3o:=c3
    replace c3:=eq_true c3
    by_cases c4:x.2.1≤((63:Nat):Int)
    ·
     have c4o:=c4
     replace c4:=eq_true c4
     by_cases c5: ((0:Nat):Int)≤x.2.2
     ·
      have c5o:=c5
      replace c5:=eq_true c5
      by_cases c6:x.2.2< ((1024:Nat):Int)
      ·
       have c6o:=c6
       replace c6:=eq_true c6
       skip
       refine Tr.w hcx [1000030] [some 3,some 4,some 5,some 6,some 7,some 8,some 9,some 10,some 11,some 12,some 13,some 14,some 15,some 16,some 17,some 18,some 19,some 20,some 21,some 22,some 23,some 24,some 25,some 26,some 27,some 28,some 29,some 30,some 2] [] rfl rfl rfl ?_ jS
       refine Tr.k [2] ?_
       exact Tr.ret kK
      have c6o:=c6
      replace c6:=eq_false c6
      skip
      refine Tr.w hcx [1000030] [some 3,some 4,some 5,some 6,some 7,some 8,some 9,some 10,some 11,some 12,some 13,some 14,some 15,some 16,some 17,some 18,some 19,some 20,some 21,some 22,some 23,some 24,some 25,some 26,some 27,some 28,some 29,some 30,some 2] [] rfl rfl rfl ?_ jS
      refine Tr.k [2] ?_
      exact Tr.ret kK
     have c5o:=c5
     replace c5:=eq_false c5
     have c6:=True.intro
     refine Tr.w hcx [1000030] [some 3,some 4,some 5,some 6,some 7,some 8,some 9,some 10,some 11,some 12,some 13,some 14,some 15,some 16,some 17,some 18,some 19,some 20,some 21,some 22,some 23,some 24,some 25,some 26,some 27,some 28,some 29,some 30,some 2] [] rfl rfl rfl ?_ jS
     refine Tr.k [2] ?_
     exact Tr.ret kK
    have c4o:=c4
    replace c4:=eq_false c4
    have c5:=True.intro
    have c6:=True.intro
    refine Tr.w hcx [1000030] [some 3,some 4,some 5,some 6,some 7,some 8,some 9,some 10,some 11,some 12,some 13,some 14,some 15,some 16,some 17,some 18,some 19,some 20,some 21,some 22,some 23,some 24,some 25,some 26,some 27,some 28,some 29,some 30,some 2] [] rfl rfl rfl ?_ jS
    refine Tr.k [2] ?_
    exact Tr.ret kK
   have c3o:=c3
   replace c3:=eq_false c3
   have c4:=True.intro
   have c5:=True.intro
   have c6:=True.intro
   refine Tr.w hcx [1000030] [some 3,some 4,some 5,some 6,some 7,some 8,some 9,some 10,some 11,some 12,some 13,some 14,some 15,some 16,some 17,some 18,some 19,some 20,some 21,some 22,some 23,some 24,some 25,some 26,some 27,some 28,some 29,some 30,some 2] [] rfl rfl rfl ?_ jS
   refine Tr.k [2] ?_
   exact Tr.ret kK
  have c2o:=c2
  replace c2:=eq_false c2
  have c3:=True.intro
  have c4:=True.intro
  have c5:=True.intro
  have c6:=True.intro
  refine Tr.w hcx [1000030] [some 3,some 4,some 5,some 6,some 7,some 8,some 9,some 10,some 11,some 12,some 13,some 14,some 15,some 16,some 17,some 18,some 19,some 20,some 21,some 22,some 23,some 24,some 25,some 26,some 27,some 28,some 29,some 30,some 2] [] rfl rfl rfl ?_ jS
  refine Tr.k [2] ?_
  exact Tr.ret kK
 have c1o:=c1
 replace c1:=eq_false c1
 have c2:=True.intro
 have c3:=True.intro
 have c4:=True.intro
 have c5:=True.intro
 have c6:=True.intro
 refine Tr.w hcx [1000030] [some 3,some 4,some 5,some 6,some 7,some 8,some 9,some 10,some 11,some 12,some 13,some 14,some 15,some 16,some 17,some 18,some 19,some 20,some 21,some 22,some 23,some 24,some 25,some 26,some 27,some 28,some 29,some 30,some 2] [] rfl rfl rfl ?_ jS
 refine Tr.k [2] ?_
 exact Tr.ret kK
theorem dZ {p:Prop}(e:p:=by intro KZ hZ;simp -implicitDefEqProofs (disch:=first|omega| (simp only[go_sem,lA,lD,lT,hm] <;>omega) |decide) only[go_sem,↓reduceIte,Nat.reduceEqDiff,reduceCtorEq,Nat.reduceLT,Nat.reduceBEq,Nat.reduceAdd,h94,e15,e16,hg0,qR,a0,a1,a2,a3,a4,a5,a6,b1,b2,hy];with_reducible exact hZ):p:=e
theorem u2 {p:Prop}(e:p:=by intro KZ hZ;simp -implicitDefEqProofs (disch:=first|omega| (simp only[go_sem,lA,lD,lT,hm] <;>omega) |decide) only[go_sem,↓reduceIte,Nat.reduceEqDiff,reduceCtorEq,Nat.reduceLT,Nat.reduceBEq,Nat.reduceAdd,h94,e15,e16,hg0,qR,a0,a1,a2,a3,a4,a5,a6,b1,b2,hy];with_reducible refine And.intro ?_ hZ;first|exact rfl|decide):p:=e
theorem i7 {p:Prop}(e:p:=by simp -implicitDefEqProofs (disch:=first|omega| (simp only[go_sem,lA,lD,lT,hm] <;>omega) |decide) only[go_sem,↓reduceIte,Nat.reduceEqDiff,reduceCtorEq];all_goals (rw[hR])):p:=e
theorem UT {gl:Nat→C}{M:Nat}{pu:Nat→List C→Option C}(hcx:CxOK (aD gl M pu))(hg0:gl 0= .kp (iD (-1,0,0)))(h94:∀x:ID,pu 94 [.agg (iD x)] =some (.val (.bool (gz x))))(h15:∀s:List UInt8,s.length≤1000000→pu 15 [.val (str s)] =some (.val (nI (cC s))))(h16:∀s:List UInt8,s.length≤1000000→pu 16 [.val (str s)] =some (sl nC (.own 1) (cG s)))(p:aI)(ht:p.2.2.2.1.length≤1000000)(hr:p.2.2.2.2.length≤1000000):FC Tryd.prog gl 54 [.agg (pC p)] [] (.val (.bool (dL p))) []:=by
 replace hcx:=hcx.reN (M:=61)
 refine bI (cx:=aD gl 61 pu) (rs:=[.tmp 2]) rfl Tryd.func54 rfl rfl rfl (by simp only[List.length_cons,List.length_nil];decide) (by simp only[go_sem]) ?_
 simp only[cZ,go_sem]
 have a0:=True.intro
 have a1:=True.intro
 have a2:=True.intro
 have a3:=True.intro
 have a4:=True.intro
 have a5:=True.intro
 have a6:=True.intro
 have b1:=True.intro
 have b2:=True.intro
 have hy:=True.intro
 have e15:=h15 _ ht
 have e16:=h16 _ ht
 have hm:=k6 p.2.2.2.1
 refine Tr.w hcx [] _ [none] rfl rfl rfl ?_ dZ
 refine Tr.k [1] ?_
 refine ae fun K1 hK1=>?_
 refine am ?_
 by_cases a0:gz p.1=true
 ·
  skip
  by_cases a1:p.2.1< ((0:Nat):Int)
  ·
   have a1o:=a1
   replace a1:=eq_true a1
   have a2:=True.intro
   have a3:=True.intro
   have a4:=True.intro
   refine Tr.w hcx [1000029] [some 6,some 7,some 8,some 9,some 10,some 11,some 12,some 13,some 14,some 15,some 16,some 17,some 18,some 19,some 20,some 21,some 22,some 23,some 24,some 25,some 26,some 27,some 28,some 29,some 5] [] rfl rfl rfl ?_ dZ
   refine bn rfl ?_
   have hR:=jR (p:=p) (by omega)
   refine Tr.w hcx [] _ [] rfl rfl rfl ?_ dZ
   refine Tr.k [2] ?_
   exact Tr.ret i7
  have a1o:=a1
  replace a1:=eq_false a1
  by_cases a2: ((4:Nat):Int)≤p.2.1
  ·
   have a2o:=a2
   replace a2:=eq_true a2
   have a3:=True.intro
   have a4:=True.intro
   refine Tr.w hcx [1000029] [some 6,some 7,some 8,some 9,some 10,some 11,some 12,some 13,some 14,some 15,some 16,some 17,some 18,some 19,some 20,some 21,some 22,some 23,some 24,some 25,some 26,some 27,some 28,some 29,some 5] [] rfl rfl rfl ?_ dZ
   refine bn rfl ?_
   have hR:=jR (p:=p) (by omega)
   refine Tr.w hcx [] _ [] rfl rfl rfl ?_ dZ
   refine Tr.k [2] ?_
   exact Tr.ret i7
  have a2o:=a2
  replace a2:=eq_false a2
  by_cases a3:p.2.2.1< ((0:Nat):Int)
  ·
   have a3o:=a3
   replace a3:=eq_true a3
   have a4:=True.intro
   refine Tr.w hcx [1000029] [some 6,some 7,some 8,some 9,some 10,some 11,some 12,some 13,some 14,some 15,some 16,some 17,some 18,some 19,some 20,some 21,some 22,some 23,some 24,some 25,some 26,some 27,some 28,some 29,some 5] [] rfl rfl rfl ?_ dZ
   refine bn rfl ?_
   have hR:=jR (p:=p) (by omega)
   refine Tr.w hcx [] _ [] rfl rfl rfl ?_ dZ
   refine Tr.k [2] ?_
   exact Tr.ret i7
  have a3o:=a3
  replace a3:=eq_false a3
  by_cases a4: ((4:Nat):Int)≤p.2.2.1
  ·
   have a4o:=a4
   replace a4:=eq_true a4
   skip
   refine Tr.w hcx [1000029] [some 6,some 7,some 8,some 9,some 10,some 11,some 12,some 13,some 14,some 15,some 16,some 17,some 18,some 19,some 20,some 21,some 22,some 23,some 24,some 25,some 26,some 27,some 28,some 29,some 5] [] rfl rfl rfl ?_ dZ
   refine bn rfl ?_
   have hR:=jR (p:=p) (by omega)
   refine Tr.w hcx [] _ [] rfl rfl rfl ?_ dZ
   refine Tr.k [2] ?_
   exact Tr.ret i7
  have a4o:=a4
  replace a4:=eq_false a4
  skip
  refine Tr.w hcx [1000029] [some 6,some 7,some 8,some 9,some 10,some 11,some 12,some 13,some 14,some 15,some 16,some 17,some 18,some 19,some 20,some 21,some 22,some 23,some 24,some 25,some 26,some 27,some 28,some 29,some 5] [] rfl rfl rfl ?_ dZ
  refine aO rfl ?_
  by_cases a5:cC p.2.2.2.1=0
  ·
   have a5o:=a5
   replace a5:=eq_true a5
   by_cases a6: (cG p.2.2.2.1).length=p.2.2.2.2.length
   ·
    have a6o:=a6
    replace a6:=eq_true a6
    skip
    refine fh hcx eG [1000044] [some 31,some 32,some 33,some 34,some 35,some 36,some 37,some 38,some 39,some 40,some 41,some 42,some 43,some 44,some 30] [] rfl rfl rfl rfl ?_ u2
    refine Tr.k [1,30] ?_
    refine aO rfl ?_
    refine Tr.skip ?_
    refine hK1 _ ?_
    refine ae fun K2 hK2=>?_
    refine Tr.w hcx [] _ [] rfl rfl rfl ?_ dZ
    refine Tr.k [46,47,48] ?_
    refine am ?_
    obtain ⟨R,hR⟩:∃R,p.2.2.2.2=R:=⟨_,rfl⟩
    rw[hR]
    rw[hR] at a6o hr
    have h7:=BY (p:=p)
    have hT:=u0 (p:=p) a0 (by omega) a5o (by rw[hR];exact a6o)
    rw[hR] at h7 hT
    refine Tr.k [46,47,48] ?_
    refine bD hcx [] ?_
    refine aV (α:=Nat) (fun a=>[(46,?v46_1),(47,?v47_1),(48,.val (nI a))]) (fun a=>[]) (fun a=>a≤R.length∧∀j,j< a→jf (gt R j) =true) (fun a=>R.length - a) (0) ⟨Nat.zero_le _,fun j hj=>absurd hj (Nat.not_lt_zero j)⟩ ?le_1 ?hh_1 ?bd_1
    case hh_1=>exact rfl
    case le_1=>exact LT
    rintro i ⟨hi,hA⟩
    refine Tr.w hcx [] _ [] rfl rfl rfl ?_ dZ
    refine ae fun K3 hK3=>?_
    refine aw rfl (fun hc49=>?_) (fun hc49=>?_)
    ·
     refine Tr.skip ?_
     refine hK3 _ ?_
     refine ae fun K4 hK4=>?_
     refine am ?_
     refine Tr.w hcx [] _ [none] rfl rfl rfl ?_ dZ
     by_cases b1:gt R i= (-1,0,0)
     ·
      have b1o:=b1
      replace b1:=eq_true b1
      have b2:=True.intro
      refine Tr.w hcx [] [some 52,some 53,some 54,some 55,some 56,some 57,some 58,some 59] [] rfl rfl rfl ?_ dZ
      refine aO rfl ?_
      refine Tr.skip ?_
      refine hK4 _ ?_
      refine Tr.k [46,47,48] ?_
      refine bD hcx [] ?_
      refine Tr.v hcx [] _ [] rfl rfl rfl ?_ dZ
      exact ⟨i+1,⟨⟨by omega,fun j hj=>(Nat.lt_or_eq_of_le (Nat.le_of_lt_succ hj)).elim (hA j) (fun e=>e▸Ha b1o)⟩,O1⟩,LT,rfl⟩
     have b1o:=b1
     replace b1:=eq_false b1
     by_cases b2:gz (gt R i) =true
     ·
      skip
      skip
      refine Tr.w hcx [] [some 52,some 53,some 54,some 55,some 56,some 57,some 58,some 59] [] rfl rfl rfl ?_ dZ
      refine aO rfl ?_
      refine Tr.skip ?_
      refine hK4 _ ?_
      refine Tr.k [46,47,48] ?_
      refine bD hcx [] ?_
      refine Tr.v hcx [] _ [] rfl rfl rfl ?_ dZ
      exact ⟨i+1,⟨⟨by omega,fun j hj=>(Nat.lt_or_eq_of_le (Nat.le_of_lt_succ hj)).elim (hA j) (fun e=>e▸Hb b2)⟩,O1⟩,LT,rfl⟩
     replace b2:=(Bool.not_eq_true _).mp b2
     skip
     refine Tr.w hcx [] [some 52,some 53,some 54,some 55,some 56,some 57,some 58,some 59] [] rfl rfl rfl ?_ dZ
     refine bn rfl ?_
     have hR:=h7 (gF hc49 (Sq b1o b2))
     refine Tr.w hcx [] _ [] rfl rfl rfl ?_ dZ
     exact Tr.ret i7
    refine Tr.exit ?_
    refine hK2 _ ?_
    obtain rfl:i=R.length:=by omega
    have hR:=hT (iw hA)
    refine Tr.w hcx [] _ [] rfl rfl rfl ?_ dZ
    exact Tr.ret i7
   have a6o:=a6
   replace a6:=eq_false a6
   skip
   refine fh hcx eG [1000044] [some 31,some 32,some 33,some 34,some 35,some 36,some 37,some 38,some 39,some 40,some 41,some 42,some 43,some 44,some 30] [] rfl rfl rfl rfl ?_ u2
   refine Tr.k [1,30] ?_
   refine bn rfl ?_
   have hR:=BX a6o
   refine Tr.w hcx [] _ [] rfl rfl rfl ?_ dZ
   exact Tr.ret i7
  have a5o:=a5
  replace a5:=eq_false a5
  have a6:=True.intro
  refine fh hcx eG [1000044] [some 31,some 32,some 33,some 34,some 35,some 36,some 37,some 38,some 39,some 40,some 41,some 42,some 43,some 44,some 30] [] rfl rfl rfl rfl ?_ u2
  refine Tr.k [1,30] ?_
  refine bn rfl ?_
  have hR:=BW a5o
  refine Tr.w hcx [] _ [] rfl rfl rfl ?_ dZ
  exact Tr.ret i7
 replace a0:=(Bool.not_eq_true _).mp a0
 have a1:=True.intro
 have a2:=True.intro
 have a3:=True.intro
 have a4:=True.intro
 refine Tr.w hcx [1000029] [some 6,some 7,some 8,some 9,some 10,some 11,some 12,some 13,some 14,some 15,some 16,some 17,some 18,some 19,some 20,some 21,some 22,some 23,some 24,some 25,some 26,some 27,some 28,some 29,some 5] [] rfl rfl rfl ?_ dZ
 refine bn rfl ?_
 have hR:=BV a0
 refine Tr.w hcx [] _ [] rfl rfl rfl ?_ dZ
 refine Tr.k [2] ?_
 exact Tr.ret i7
end Go.Sx
namespace Go.Sx
open Go.RowKit Go.Proofs
set_option maxRecDepth 100000
set_option maxHeartbeats 8000000
def c7 (w:ah):Bool:=decide (8< w.length) ||w.any (fun V=>decide (64< V.length)) ||decide (1024< (aZ w).length)
theorem FM {w:ah}(h:8< w.length):c7 w=true:=by unfold c7;rw[decide_eq_true h];rfl
theorem OY {α:Type}[Inhabited α]{l:List α}{p:α→Bool}{j:Nat}(hj:j< l.length)(h:p (gt l j) =true):l.any p=true:=by
 rw[List.any_eq_true]
 exact ⟨_,List.getElem_mem hj,by simpa[gt,List.getD,List.getElem?_eq_getElem hj] using h⟩
theorem Kw {α:Type}[Inhabited α]{l:List α}{p:α→Bool}(h:∀j,j< l.length→p (gt l j) =false):l.any p=false:=by
 rw[List.any_eq_false]
 intro x hx
 obtain ⟨j,hj,rfl⟩:=List.getElem_of_mem hx
 have:=h j hj
 simpa[gt,List.getD,List.getElem?_eq_getElem hj] using this
theorem FO {w:ah}{j:Nat}(hj:j< w.length)(h:64< (gt w j).length):c7 w=true:=by unfold c7;rw[OY hj (decide_eq_true h)];simp
theorem FQ {w:ah}(h:¬8< w.length)(h2:∀j,j< w.length→¬64< (gt w j).length):c7 w=decide (1024< (aZ w).length):=by
 have h3:w.any (fun V=>decide (64< V.length)) =false:=Kw fun j hj=>decide_eq_false (h2 j hj)
 unfold c7;rw[decide_eq_false h,h3];rfl
def gY (w:ah):Bool:=w.all fun V=>V.all fun A=>fP A.1
theorem BZ {s:List UInt8}(h:cC s=0)(h2: (cG s).length=0):fP s=true:=by unfold fP;rw[decide_eq_true h,decide_eq_true h2];rfl
theorem B0 {s:List UInt8}(h:¬ (cC s=0∧(cG s).length=0)):fP s=false:=by
 unfold fP
 by_cases h1:cC s=0
 . rw[decide_eq_false (fun e=>h ⟨h1,e⟩)];simp
 . rw[decide_eq_false h1];rfl
theorem FR (a:Nat):m8 (cl nC (List.replicate 3 0)) [(0,.val (nI a))] =some (vp (.agg [.val (nI a),.val (nI 0),.val (nI 0)])):=rfl
theorem FSq (a b c:Nat):m8 (cl nC (List.replicate 3 0)) [(0,.val (nI a)),(1,.val (nI b)),(2,.val (nI c))] =some (vp (.agg [.val (nI a),.val (nI b),.val (nI c)])):=rfl
attribute [go_sem high] FR FSq
def nA (w:ah)(v:Nat):Nat:=((w.take v).flatten).length
theorem FT (w:ah)(v:Nat)(h:v< w.length):nA w (v+1) =nA w v+(gt w v).length:=by
 unfold nA;rw[←fq w v h,List.flatten_append,List.length_append];simp
theorem Hc (w:ah)(v:Nat):nA w v≤nA w w.length:=by
 unfold nA
 rw[List.take_length]
 conv=>rhs;rw[←List.take_append_drop v w]
 rw[List.flatten_append,List.length_append];omega
theorem ff {p:Prop}(e:p:=by intro KZ hZ;simp -implicitDefEqProofs (disch:=first|omega| (simp only[go_sem,lA,lD,lT,hVl] <;>omega) |decide) only[go_sem,↓reduceIte,Nat.reduceEqDiff,reduceCtorEq,Nat.reduceLT,Nat.reduceBEq,Nat.reduceAdd,hVV,hy];with_reducible exact hZ):p:=e
theorem u4 {p:Prop}(e:p:=by simp -implicitDefEqProofs (disch:=first|omega| (simp only[go_sem,lA,lD,lT,hVl] <;>omega) |decide) only[go_sem,↓reduceIte,Nat.reduceEqDiff,reduceCtorEq];all_goals (rw[hR])):p:=e
theorem UU {gl:Nat→C}{M:Nat}{pu:Nat→List C→Option C}(hcx:CxOK (aD gl M pu))(w:ah)(hw:WS w):FC Tryd.prog gl 52 [.agg [sl vC .no w]] [] (.val (.bool (c7 w))) []:=by
 replace hcx:=hcx.reN (M:=39)
 refine bI (cx:=aD gl 39 pu) (rs:=[.tmp 2]) rfl Tryd.func52 rfl rfl rfl (by simp only[List.length_cons,List.length_nil];decide) (by simp only[go_sem]) ?_
 simp only[cZ,go_sem]
 have hy:=True.intro
 have hw1:=hw.1.1
 have hal:=eV w
 have hw2:=hw.2.1
 have hVV:=True.intro
 have hVl:=True.intro
 refine Tr.w hcx [] _ [none] rfl rfl rfl ?_ ff
 refine ae fun K1 hK1=>?_
 refine Tr.w hcx [] _ [] rfl rfl rfl ?_ ff
 refine aw rfl (fun hc11=>?_) (fun hc11=>?_)
 ·
  have hR:=FM hc11
  refine Tr.w hcx [] _ [] rfl rfl rfl ?_ ff
  exact Tr.ret u4
 refine Tr.skip ?_
 refine hK1 _ ?_
 refine Tr.w hcx [] _ [] rfl rfl rfl ?_ ff
 refine ae fun K2 hK2=>?_
 refine Tr.w hcx [] _ [] rfl rfl rfl ?_ ff
 refine Tr.k [3,13,14,15] ?_
 refine am ?_
 refine Tr.k [3,13,14,15] ?_
 refine bD hcx [] ?_
 refine aV (α:=Nat) (fun a=>[(3,.val (nI (pV w a).length)),(13,?v13_1),(14,?v14_1),(15,.val (nI a))]) (fun a=>[]) (fun a=>a≤w.length∧∀j,j< a→¬64< (gt w j).length) (fun a=>w.length - a) (0) ⟨Nat.zero_le _,fun j hj=>absurd hj (Nat.not_lt_zero j)⟩ ?le_1 ?hh_1 ?bd_1
 case hh_1=>exact rfl
 case le_1=>exact LT
 rintro v ⟨hv,hA⟩
 have hp:=qF w v
 refine Tr.w hcx [] _ [] rfl rfl rfl ?_ ff
 refine ae fun K3 hK3=>?_
 refine aw rfl (fun hc16=>?_) (fun hc16=>?_)
 ·
  obtain ⟨V,hV⟩:∃V,gt w v=V:=⟨_,rfl⟩
  have hVV:=hV
  have hVl:=hw.1.2.1 v hc16
  have hAl:=hw.1.2.2 v
  have hpS:=pI w v hc16
  rw[hV] at hVl hAl hpS
  have hpS:=congrArg List.length hpS
  rw[List.length_append] at hpS
  refine Tr.skip ?_
  refine hK3 _ ?_
  refine ae fun K4 hK4=>?_
  refine am ?_
  refine Tr.w hcx [] _ [none] rfl rfl rfl ?_ ff
  refine ae fun K5 hK5=>?_
  refine Tr.w hcx [] _ [] rfl rfl rfl ?_ ff
  refine aw rfl (fun hc22=>?_) (fun hc22=>?_)
  ·
   have hR:=FO hc16 (by rw[hV];exact hc22)
   refine Tr.w hcx [] _ [] rfl rfl rfl ?_ ff
   exact Tr.ret u4
  refine Tr.skip ?_
  refine hK5 _ ?_
  refine Tr.w hcx [] _ [] rfl rfl rfl ?_ ff
  refine Tr.k [3,13,14,15,24,25,26] ?_
  refine am ?_
  refine Tr.k [3,13,14,15,24,25,26] ?_
  refine bD hcx [] ?_
  refine aV (α:=Nat) (fun a=>[(3,.val (nI ((pV w v).length+(pA V a).length))),(13,?v13_2),(14,?v14_2),(15,?v15_2),(24,?v24_2),(25,?v25_2),(26,.val (nI a))]) (fun a=>[]) (fun a=>a≤V.length) (fun a=>V.length - a) (0) (Nat.zero_le _) ?le_2 ?hh_2 ?bd_2
  case hh_2=>exact rfl
  case le_2=>(simp only[bQ,bl,↓bF,↓reduceIte,Nat.reduceEqDiff,ba,br,bc,bu,bv,and_true,true_and];all_goals (repeat' first|exact CLe.refl _|exact True.intro| (refine bH ?_;first|rfl| (simp only[List.take_zero];done)) |exact cU (by omega) |exact cM (by omega) |exact cN (by omega) |exact cO (by omega) |with_reducible apply And.intro));all_goals first|exact CLe.refl _|exact cU (by show _=_+(pA V 0).length;rfl)
  rintro k hk
  have hp2:=nu w v (k+1) hc16
  rw[hV] at hp2
  refine Tr.w hcx [] _ [] rfl rfl rfl ?_ ff
  refine ae fun K6 hK6=>?_
  refine aw rfl (fun hc27=>?_) (fun hc27=>?_)
  ·
   have hAk:=hAl k hc16 hc27
   have hpA:=congrArg List.length (lj V k hc27)
   rw[List.length_append] at hpA
   refine Tr.skip ?_
   refine hK6 _ ?_
   refine ae fun K7 hK7=>?_
   refine am ?_
   refine Tr.w hcx [] _ [none] rfl rfl rfl ?_ ff
   refine Tr.v hcx [1000034] _ [] rfl rfl rfl ?_ ff
   refine hK7 _ ?_
   refine Tr.k [3,13,14,15,24,25,26] ?_
   refine bD hcx [] ?_
   refine Tr.v hcx [] _ [] rfl rfl rfl ?_ ff
   refine ⟨k+1,⟨(by omega),O1⟩,?_,rfl⟩
   (simp only[bQ,bl,↓bF,↓reduceIte,Nat.reduceEqDiff,ba,br,bc,bu,bv,and_true,true_and];all_goals (repeat' first|exact CLe.refl _|exact True.intro| (refine bH ?_;first|rfl| (simp only[List.take_zero];done)) |exact cU (by omega) |exact cM (by omega) |exact cN (by omega) |exact cO (by omega) |with_reducible apply And.intro))
   all_goals first|exact cU (by omega) |exact CLe.refl _
  refine Tr.exit ?_
  refine hK4 _ ?_
  obtain rfl:k=V.length:=by omega
  refine Tr.v hcx [] _ [] rfl rfl rfl ?_ ff
  refine ⟨v+1,⟨⟨by omega,fun j hj=>(Nat.lt_or_eq_of_le (Nat.le_of_lt_succ hj)).elim (hA j) (fun e=>by subst e;rw[hV];exact hc22)⟩,O1⟩,?_,rfl⟩
  (simp only[bQ,bl,↓bF,↓reduceIte,Nat.reduceEqDiff,ba,br,bc,bu,bv,and_true,true_and];all_goals (repeat' first|exact CLe.refl _|exact True.intro| (refine bH ?_;first|rfl| (simp only[List.take_zero];done)) |exact cU (by omega) |exact cM (by omega) |exact cN (by omega) |exact cO (by omega) |with_reducible apply And.intro))
  all_goals first|exact cU (by omega) |exact CLe.refl _
 refine Tr.exit ?_
 refine hK2 _ ?_
 obtain rfl:v=w.length:=by omega
 have hR:=FQ hc11 hA
 rw[←lS]
 refine Tr.w hcx [1000038] _ [] rfl rfl rfl ?_ ff
 exact Tr.ret u4
theorem fC {p:Prop}(e:p:=by intro KZ hZ;simp -implicitDefEqProofs (disch:=first|omega| (simp only[go_sem,lA,lD,lT,hVl,hm] <;>omega) |decide) only[go_sem,↓reduceIte,Nat.reduceEqDiff,reduceCtorEq,Nat.reduceLT,Nat.reduceBEq,Nat.reduceAdd,hVV,e15,e16,b1,b2,hy];with_reducible exact hZ):p:=e
theorem u5 {p:Prop}(e:p:=by simp -implicitDefEqProofs (disch:=first|omega| (simp only[go_sem,lA,lD,lT,hVl,hm] <;>omega) |decide) only[go_sem,↓reduceIte,Nat.reduceEqDiff,reduceCtorEq];all_goals (rw[hR])):p:=e
theorem UV {gl:Nat→C}{M:Nat}{pu:Nat→List C→Option C}(hcx:CxOK (aD gl M pu))(h15:∀s:List UInt8,s.length≤1000000→pu 15 [.val (str s)] =some (.val (nI (cC s))))(h16:∀s:List UInt8,s.length≤1000000→pu 16 [.val (str s)] =some (sl nC (.own 1) (cG s)))(w:ah)(hw:WB w)(ht:∀v a,v< w.length→a< (gt w v).length→(gt (gt w v) a).1.length≤1000000):FC Tryd.prog gl 55 [.agg [sl vC .no w]] [] (.val (.bool (gY w))) []:=by
 replace hcx:=hcx.reN (M:=34)
 refine bI (cx:=aD gl 34 pu) (rs:=[.tmp 2]) rfl Tryd.func55 rfl rfl rfl (by simp only[List.length_cons,List.length_nil];decide) (by simp only[go_sem]) ?_
 simp only[cZ,go_sem]
 have b1:=True.intro
 have b2:=True.intro
 have hy:=True.intro
 have hw1:=hw.1
 have hVV:=True.intro
 have hVl:=True.intro
 have hm:=True.intro
 have e15:=True.intro
 have e16:=True.intro
 refine Tr.w hcx [] _ [none] rfl rfl rfl ?_ fC
 refine ae fun K1 hK1=>?_
 refine Tr.w hcx [] _ [] rfl rfl rfl ?_ fC
 refine Tr.k [8,9,10] ?_
 refine am ?_
 refine Tr.k [8,9,10] ?_
 refine bD hcx [] ?_
 refine aV (α:=Nat) (fun a=>[(8,?v8_1),(9,?v9_1),(10,.val (nI a))]) (fun a=>[]) (fun a=>a≤w.length∧∀j,j< a→(gt w j).all (fun A=>fP A.1) =true) (fun a=>w.length - a) (0) ⟨Nat.zero_le _,fun j hj=>absurd hj (Nat.not_lt_zero j)⟩ ?le_1 ?hh_1 ?bd_1
 case hh_1=>exact rfl
 case le_1=>exact LT
 rintro v ⟨hv,hA⟩
 refine Tr.w hcx [] _ [] rfl rfl rfl ?_ fC
 refine ae fun K2 hK2=>?_
 refine aw rfl (fun hc11=>?_) (fun hc11=>?_)
 ·
  obtain ⟨V,hV⟩:∃V,gt w v=V:=⟨_,rfl⟩
  have hVV:=hV
  have hVl:=hw.2.1 v hc11
  have htv:=ht v
  rw[hV] at hVl htv
  refine Tr.skip ?_
  refine hK2 _ ?_
  refine ae fun K3 hK3=>?_
  refine am ?_
  refine Tr.w hcx [] _ [none] rfl rfl rfl ?_ fC
  refine Tr.w hcx [] _ [] rfl rfl rfl ?_ fC
  refine Tr.k [8,9,10,15,16,17] ?_
  refine am ?_
  refine Tr.k [8,9,10,15,16,17] ?_
  refine bD hcx [] ?_
  refine aV (α:=Nat) (fun a=>[(8,?v8_2),(9,?v9_2),(10,?v10_2),(15,?v15_2),(16,?v16_2),(17,.val (nI a))]) (fun a=>[]) (fun a=>a≤V.length∧∀j,j< a→fP (gt V j).1=true) (fun a=>V.length - a) (0) ⟨Nat.zero_le _,fun j hj=>absurd hj (Nat.not_lt_zero j)⟩ ?le_2 ?hh_2 ?bd_2
  case hh_2=>exact rfl
  case le_2=>exact LT
  rintro k ⟨hk,hB⟩
  refine Tr.w hcx [] _ [] rfl rfl rfl ?_ fC
  refine ae fun K4 hK4=>?_
  refine aw rfl (fun hc18=>?_) (fun hc18=>?_)
  ·
   have htk:=htv k hc11 hc18
   have e15:=h15 _ htk
   have e16:=h16 _ htk
   have hm:=k6 (gt V k).1
   refine Tr.skip ?_
   refine hK4 _ ?_
   refine ae fun K5 hK5=>?_
   refine am ?_
   refine Tr.w hcx [] _ [none] rfl rfl rfl ?_ fC
   by_cases b1:cC (gt V k).1=0
   ·
    have b1o:=b1
    replace b1:=eq_true b1
    by_cases b2: (cG (gt V k).1).length=0
    ·
     have b2o:=b2
     replace b2:=b2
     skip
     refine Tr.w hcx [] [some 21,some 22,some 23,some 24,some 25,some 26,some 27,some 28,some 29,some 30,some 31] [] rfl rfl rfl ?_ fC
     refine aO rfl ?_
     refine Tr.skip ?_
     refine hK5 _ ?_
     refine Tr.k [8,9,10,15,16,17] ?_
     refine bD hcx [] ?_
     refine Tr.v hcx [] _ [] rfl rfl rfl ?_ fC
     exact ⟨k+1,⟨⟨by omega,fun j hj=>(Nat.lt_or_eq_of_le (Nat.le_of_lt_succ hj)).elim (hB j) (fun e=>by subst e;exact BZ b1o b2o)⟩,O1⟩,LT,rfl⟩
    have b2o:=b2
    have b2:0< (cG (gt V k).1).length:=by omega
    skip
    refine Tr.w hcx [] [some 21,some 22,some 23,some 24,some 25,some 26,some 27,some 28,some 29,some 30,some 31] [] rfl rfl rfl ?_ fC
    refine bn rfl ?_
    have hR:gY w=false:=gF hc11 (by rw[hV];exact gF hc18 (B0 (fun h=>b2o h.2)))
    refine Tr.w hcx [] _ [] rfl rfl rfl ?_ fC
    exact Tr.ret u5
   have b1o:=b1
   replace b1:=eq_false b1
   have b2:=True.intro
   refine Tr.w hcx [] [some 21,some 22,some 23,some 24,some 25,some 26,some 27,some 28,some 29,some 30,some 31] [] rfl rfl rfl ?_ fC
   refine bn rfl ?_
   have hR:gY w=false:=gF hc11 (by rw[hV];exact gF hc18 (B0 (fun h=>b1o h.1)))
   refine Tr.w hcx [] _ [] rfl rfl rfl ?_ fC
   exact Tr.ret u5
  refine Tr.exit ?_
  refine hK3 _ ?_
  obtain rfl:k=V.length:=by omega
  refine Tr.v hcx [] _ [] rfl rfl rfl ?_ fC
  exact ⟨v+1,⟨⟨by omega,fun j hj=>(Nat.lt_or_eq_of_le (Nat.le_of_lt_succ hj)).elim (hA j) (fun e=>by subst e;rw[hV];exact iw hB)⟩,O1⟩,LT,rfl⟩
 refine Tr.exit ?_
 refine hK1 _ ?_
 obtain rfl:v=w.length:=by omega
 have hR:gY w=true:=iw hA
 refine Tr.w hcx [] _ [] rfl rfl rfl ?_ fC
 exact Tr.ret u5
theorem gb {p:Prop}(e:p:=by intro KZ hZ;simp -implicitDefEqProofs (disch:=first|omega| (simp only[go_sem,lA,lD,lT,hVl] <;>omega) |decide) only[go_sem,↓reduceIte,Nat.reduceEqDiff,reduceCtorEq,Nat.reduceLT,Nat.reduceBEq,Nat.reduceAdd,hVV,hy];with_reducible exact hZ):p:=e
theorem OZ {p:Prop}(e:p:=by simp -implicitDefEqProofs (disch:=first|omega| (simp only[go_sem,lA,lD,lT,hVl] <;>omega) |decide) only[go_sem,↓reduceIte,Nat.reduceEqDiff,reduceCtorEq];all_goals (rfl)):p:=e
theorem UW {gl:Nat→C}{M:Nat}{pu:Nat→List C→Option C}(hcx:CxOK (aD gl M pu))(w:ah)(hw:WS w)(hn:nA w w.length≤1000000):FC Tryd.prog gl 25 [.agg [sl vC .no w]] [] (.agg [.val (nI w.length),.val (nI (nA w w.length)),.val (nI (aZ w).length)]) []:=by
 replace hcx:=hcx.reN (M:=43)
 refine bI (cx:=aD gl 43 pu) (rs:=[.cell 2 53]) rfl Tryd.func25 rfl rfl rfl (by simp only[List.length_cons,List.length_nil];decide) (by simp only[go_sem]) ?_
 simp only[cZ,go_sem]
 have hy:=True.intro
 have hw1:=hw.1.1
 have hal:=eV w
 have hw2:=hw.2.1
 have hVV:=True.intro
 have hVl:=True.intro
 refine Tr.w hcx [] _ [none,none] rfl rfl rfl ?_ gb
 refine Tr.w hcx [] _ [none] rfl rfl rfl ?_ gb
 refine ae fun K1 hK1=>?_
 refine Tr.w hcx [] _ [] rfl rfl rfl ?_ gb
 refine Tr.k [2,3,13,14,15] ?_
 refine am ?_
 refine Tr.k [2,3,13,14,15] ?_
 refine bD hcx [1,2] ?_
 refine aV (α:=Nat) (fun a=>[(2,?v2_1),(3,?v3_1),(13,?v13_1),(14,?v14_1),(15,.val (nI a))]) (fun a=>[some (cl nC (List.replicate 3 0)),some [.val (nI w.length),.val (nI (nA w a)),.val (nI (pV w a).length)]]) (fun a=>a≤w.length) (fun a=>w.length - a) (0) (Nat.zero_le _) ?le_1 ?hh_1 ?bd_1
 case hh_1=>exact rfl
 case le_1=>exact LT
 rintro v hv
 have hp:=qF w v
 have hn1:=Hc w v
 have hn2:=Hc w (v+1)
 refine Tr.w hcx [] _ [] rfl rfl rfl ?_ gb
 refine ae fun K2 hK2=>?_
 refine aw rfl (fun hc16=>?_) (fun hc16=>?_)
 ·
  obtain ⟨V,hV⟩:∃V,gt w v=V:=⟨_,rfl⟩
  have hVV:=hV
  have hVl:=hw.1.2.1 v hc16
  have hAl:=hw.1.2.2 v
  have hpS:=pI w v hc16
  have hnS:=FT w v hc16
  rw[hV] at hVl hAl hpS hnS
  have hpS:=congrArg List.length hpS
  rw[List.length_append] at hpS
  refine Tr.skip ?_
  refine hK2 _ ?_
  refine ae fun K3 hK3=>?_
  refine am ?_
  refine Tr.w hcx [] _ [none] rfl rfl rfl ?_ gb
  refine Tr.w hcx [] _ [] rfl rfl rfl ?_ gb
  refine Tr.w hcx [] _ [] rfl rfl rfl ?_ gb
  refine Tr.k [2,3,13,14,15,27,28,29] ?_
  refine am ?_
  refine Tr.k [2,3,13,14,15,27,28,29] ?_
  refine bD hcx [0,1] ?_
  refine aV (α:=Nat) (fun a=>[(2,?v2_2),(3,?v3_2),(13,?v13_2),(14,?v14_2),(15,?v15_2),(27,?v27_2),(28,?v28_2),(29,.val (nI a))]) (fun a=>[some (cl nC (List.replicate 3 0)),some [.val (nI w.length),.val (nI (nA w v+V.length)),.val (nI ((pV w v).length+(pA V a).length))]]) (fun a=>a≤V.length) (fun a=>V.length - a) (0) (Nat.zero_le _) ?le_2 ?hh_2 ?bd_2
  case hh_2=>exact rfl
  case le_2=>exact LT
  rintro k hk
  have hp2:=nu w v (k+1) hc16
  rw[hV] at hp2
  refine Tr.w hcx [] _ [] rfl rfl rfl ?_ gb
  refine ae fun K4 hK4=>?_
  refine aw rfl (fun hc30=>?_) (fun hc30=>?_)
  ·
   have hAk:=hAl k hc16 hc30
   have hpA:=congrArg List.length (lj V k hc30)
   rw[List.length_append] at hpA
   refine Tr.skip ?_
   refine hK4 _ ?_
   refine ae fun K5 hK5=>?_
   refine am ?_
   refine Tr.w hcx [] _ [none] rfl rfl rfl ?_ gb
   refine Tr.v hcx [] _ [] rfl rfl rfl ?_ gb
   refine hK5 _ ?_
   refine Tr.k [2,3,13,14,15,27,28,29] ?_
   refine bD hcx [0,1] ?_
   refine Tr.v hcx [] _ [] rfl rfl rfl ?_ gb
   exact ⟨k+1,⟨(by omega),O1⟩,LT,by simp only[hpA,Nat.add_assoc]⟩
  refine Tr.exit ?_
  refine hK3 _ ?_
  obtain rfl:k=V.length:=by omega
  refine Tr.v hcx [] _ [] rfl rfl rfl ?_ gb
  exact ⟨v+1,⟨(by omega),O1⟩,LT,by simp only[FT w v hc16,hpS,hV]⟩
 refine Tr.exit ?_
 refine hK1 _ ?_
 obtain rfl:v=w.length:=by omega
 rw[←lS]
 refine Tr.w hcx [] _ [] rfl rfl rfl ?_ gb
 exact Tr.ret OZ
end Go.Sx
namespace Go.Sx
open Go.RowKit Go.Proofs
set_option maxRecDepth 100000
set_option maxHeartbeats 8000000
theorem u6 {gl:Nat→C}{M:Nat}{pu:Nat→List C→Option C}{n:Nat}{Q:Ex→St→Prop}{g f m:Nat}{ps:List Nat}{assign body:Code}{e:List (Nat×C)}{h:Hp}{caps:List C}(N:Nat)(xs:Nat→List C)(H:Nat→Hp)(R:Nat→Hp→Prop)(F:Nat→Prop)(hg:A e g= .fn f caps)(hI:ItrB Tryd.prog gl f caps N xs R∧∀i,R m (H i))
 (hx:∀i,i< N→(xs i).length=ps.length) (hp:∀p∈ps,p< M) (h0:h=H 0) (hF:F 0)
 (hb:∀i,i< N→F i→Tr (j5 gl M pu) (H i).length assign ⟨A (g9 ps (xs i) (oP e)),H i⟩ fun x s=>x= .normal∧Tr (j5 gl M pu) (H i).length body s (RoundQ (H i).length (fun k=>k=H (i+1)∧F (i+1)) fun x h'=>Q x ⟨A e,h'⟩))
 (hd:F N→Q .normal ⟨A e,H N⟩):Tr (kZ gl M pu) n (.rangeFunc (.tmp g) ps.toArray assign body) ⟨A e,h⟩ Q:=
 uN (cx:=kZ gl M pu) rfl (fun i k=>k=H i∧F i) hg (hI.1 m _ fun i k hk=>by rw[hk.1];exact hI.2 i) hx hp ⟨h0,hF⟩ (fun i k hi hk=>by obtain ⟨rfl,hk⟩:=hk;rw[qt,mC];exact hb i hi hk) (fun k hk=>by obtain ⟨rfl,hk⟩:=hk;exact hd hk)
def js (w:ah):Bool:=(aZ w).all dL
def ey (w:ah):List ID:=(aZ w).map (·.1)
def u7 (w:ah):Nat→Int
 |0=>2
 |i+1=>(gt (aS w) i).2.2.1
def lm (w:ah)(j:Nat):Bool:= !(decide ((gt (aS w) j).2.2.1=1) && (decide ((gt (aS w) j).1.2.2=0) ||decide (u7 w j=2)))
def nw (w:ah):Bool:=(List.range (aS w).length).all (lm w)
def eF (w:ah):Nat:=if c7 w=true then 4 else if js w=false then 1 else if gY w=false then 1 else if ¬ (ey w).Nodup then 7 else if nw w=false then 8 else 0
theorem O0 {w:ah}(h:c7 w=true):eF w=4:=if_pos h
theorem O3 {w:ah}(h:c7 w=false)(h1:js w=false):eF w=1:=by unfold eF;rw[h,h1];rfl
theorem O4 {w:ah}(h:c7 w=false)(h1:js w=true)(h2:gY w=false):eF w=1:=by unfold eF;rw[h,h1,h2];rfl
theorem O5 {w:ah}(h:c7 w=false)(h1:js w=true)(h2:gY w=true)(h3:¬ (ey w).Nodup):eF w=7:=by unfold eF;rw[h,h1,h2,if_pos h3];rfl
theorem B1 {w:ah}(h:c7 w=false)(h1:js w=true)(h2:gY w=true)(h3: (ey w).Nodup)(h4:nw w=false):eF w=8:=by simp[eF,h,h1,h2,h3,h4]
theorem O6 {w:ah}(h:c7 w=false)(h1:js w=true)(h2:gY w=true)(h3: (ey w).Nodup)(h4:nw w=true):eF w=0:=by simp[eF,h,h1,h2,h3,h4]
theorem O7 {w:ah}(h:∀j,j< (aS w).length→dL (gt (aS w) j).2=true):js w=true:=iw fun j hj=>by rw[jW w j (by rw[eV] at hj;exact hj)];exact h j (by rw[eV] at hj;exact hj)
theorem O8 {w:ah}{j:Nat}(hj:j< (aS w).length)(h:dL (gt (aS w) j).2=false):js w=false:=gF (by rw[eV];exact hj) (by rw[jW w j hj];exact h)
theorem pL (w:ah): (ey w).length= (aS w).length:=by unfold ey;rw[List.length_map,eV]
theorem xk (w:ah)(i:Nat)(h:i< (aS w).length):gt (ey w) i= (gt (aS w) i).2.1:=by
 rw[←jW w i h]
 have h2:i< (aZ w).length:=by rw[eV];exact h
 simp[ey,gt,List.getD,List.getElem?_map,List.getElem?_eq_getElem h2]
theorem FU {l:List ID}{x:ID}:x∈d4 l↔x∈l:=by
 have:∀ (l M:List ID),x∈l.foldl lq M↔x∈M∨x∈l:=fun l=>by
  induction l with
  |nil=>intro M;simp
  |cons y l ih=>
   intro M
   rw[List.foldl_cons,ih]
   unfold lq
   split
   . rename_i h
     constructor
     . rintro (h1|h1)
       . exact .inl h1
       . exact .inr (List.mem_cons_of_mem _ h1)
     . rintro (h1|h1)
       . exact .inl h1
       . rcases List.mem_cons.1 h1 with rfl|h1
         . exact .inl h
         . exact .inr h1
   . simp only[List.mem_append,List.mem_cons,List.not_mem_nil,or_false]
     constructor
     . rintro ((h1|h1) |h1)
       . exact .inl h1
       . exact .inr (.inl h1)
       . exact .inr (.inr h1)
     . rintro (h1|h1|h1)
       . exact .inl (.inl h1)
       . exact .inl (.inr h1)
       . exact .inr h1
 have h:=this l []
 unfold d4
 simpa using h
theorem Kx {l:List ID}{i:Nat}(h:i< l.length)(h2:gt l i∈l.take i):¬l.Nodup:=by
 intro hn
 have e:=fq l i h
 have h3:=(List.take_sublist (i+1) l).nodup hn
 rw[←e,List.nodup_append] at h3
 exact h3.2.2 _ h2 _ (List.mem_singleton.2 rfl) rfl
theorem Ky {l:List ID}{i:Nat}(h:i< l.length)(hn: (l.take i).Nodup)(h2:¬gt l i∈l.take i): (l.take (i+1)).Nodup:=by
 rw[←fq l i h,List.nodup_append]
 refine ⟨hn,by simp,fun a ha b hb e=>?_⟩
 rw[List.mem_singleton] at hb;subst hb;subst e
 exact h2 ha
theorem O9 {w:ah}{j:Nat}(h:¬ ((gt (aS w) j).2.2.1=1∧((gt (aS w) j).1.2.2=0∨u7 w j=2))):lm w j=true:=by
 unfold lm
 by_cases h1: (gt (aS w) j).2.2.1=1
 . rw[decide_eq_false (fun e=>h ⟨h1,.inl e⟩),decide_eq_false (fun e=>h ⟨h1,.inr e⟩)];simp
 . rw[decide_eq_false h1];rfl
theorem Pa {w:ah}{j:Nat}(h: (gt (aS w) j).2.2.1=1)(h2: (gt (aS w) j).1.2.2=0∨u7 w j=2):lm w j=false:=by
 unfold lm
 rw[decide_eq_true h]
 rcases h2 with h2|h2<;>rw[decide_eq_true h2] <;>simp
theorem Pb {w:ah}(h:∀j,j< (aS w).length→lm w j=true):nw w=true:=by
 unfold nw;rw[List.all_eq_true];exact fun j hj=>h j (List.mem_range.1 hj)
theorem B2 {w:ah}{j:Nat}(hj:j< (aS w).length)(h:lm w j=false):nw w=false:=by
 unfold nw;rw[List.all_eq_false];exact ⟨j,List.mem_range.2 hj,by rw[h];simp⟩
theorem Pc {w:ah}{M:List ID}{r:Hp}{k:Nat}(b:Nat)(cells:List C)(hb:b< 3)(hq: (some [sl vC .no w]::some [.val (nI 0)]::some (ef (d9 M))::r:Hp)[b]? =some (some cells)):noRefs k cells=true:=by
 rcases b with _|_|_|b
 . cases hq;simp only[aq,ay,ax,Bool.and_self]
 . cases hq;rfl
 . cases hq;exact uT _ _
 . omega
theorem cu {p:Prop}(e:p:=by intro KZ hZ;simp -implicitDefEqProofs (disch:=first|omega| (simp only[go_sem,lA,lD,lT] <;>omega) |decide) only[go_sem,↓reduceIte,Nat.reduceEqDiff,reduceCtorEq,Nat.reduceLT,Nat.reduceBEq,Nat.reduceAdd,e52,h53,e55,e54,ep,hPx,c0,c1,c2,c3,d1,d2,d3,hy];with_reducible exact hZ):p:=e
theorem kL {p:Prop}(e:p:=by simp -implicitDefEqProofs (disch:=first|omega| (simp only[go_sem,lA,lD,lT] <;>omega) |decide) only[go_sem,↓reduceIte,Nat.reduceEqDiff,reduceCtorEq];all_goals (first|rw[hR] | (rw[hR];rfl))):p:=e
theorem UX {gl:Nat→C}{M:Nat}{pu:Nat→List C→Option C}(hcx:CxOK (kZ gl M pu))(h52:∀w:ah,WS w→pu 52 [.agg [sl vC .no w]] =some (.val (.bool (c7 w))))(h53:∀w:ah,pu 53 [.agg [sl vC .no w]] =some (.fn 93 [.kp [sl vC .no w]]))(h54:∀p:aI,p.2.2.2.1.length≤1000000→p.2.2.2.2.length≤1000000→pu 54 [.agg (pC p)] =some (.val (.bool (dL p))))(h55:∀w:ah,WB w→(∀v a,v< w.length→a< (gt w v).length→(gt (gt w v) a).1.length≤1000000)→pu 55 [.agg [sl vC .no w]] =some (.val (.bool (gY w))))(w:ah)(hw:WS w)(ht:∀i,i< (aS w).length→(gt (aS w) i).2.2.2.2.1.length≤1000000)(htt:∀v a,v< w.length→a< (gt w v).length→(gt (gt w v) a).1.length≤1000000)(hid:∀i,i< (aS w).length→c9 (gt (aS w) i).2.1):FC Tryd.prog gl 12 [.agg [sl vC .no w]] [] (.val (nI (eF w))) []:=by
 replace hcx:=hcx.reN (M:=51)
 refine bI (cx:=kZ gl 51 pu) (rs:=[.cell 2 25]) rfl Tryd.func12 rfl rfl rfl (by simp only[List.length_cons,List.length_nil];decide) (by simp only[go_sem]) ?_
 simp only[cZ,go_sem]
 have c0:=True.intro
 have c1:=True.intro
 have c2:=True.intro
 have c3:=True.intro
 have d1:=True.intro
 have d2:=True.intro
 have d3:=True.intro
 have hy:=True.intro
 have e52:=h52 w hw
 have e55:=h55 w hw.1 htt
 have e54:=True.intro
 have ep:=True.intro
 have hPx:=True.intro
 have hmv:=fun (ρ:List Nat) (M:List ID) =>mvCs_nr ρ (ef (d9 M)) (nV M)
 refine Tr.w hcx [] _ [none,none] rfl rfl rfl ?_ cu
 refine ae fun K1 hK1=>?_
 by_cases c0:c7 w=true
 ·
  skip
  refine Tr.w hcx [] _ [] rfl rfl rfl ?_ cu
  refine bn rfl ?_
  have hR:=O0 c0
  refine Tr.w hcx [] _ [] rfl rfl rfl ?_ cu
  exact Tr.ret kL
 replace c0:=(Bool.not_eq_true _).mp c0
 refine Tr.w hcx [] _ [] rfl rfl rfl ?_ cu
 refine aO rfl ?_
 refine Tr.skip ?_
 refine hK1 _ ?_
 refine ae fun K2 hK2=>?_
 refine Tr.w hcx [] _ [] rfl rfl rfl ?_ cu
 refine am ?_
 refine Tr.k [1,2,14] ?_
 refine u6 ((aS w).length) (sL w) (fun i=>[some [sl vC .no w],some [.val (nI 0)]]) (RowN) (fun i=> ∀j,j< i→dL (gt (aS w) j).2=true) rfl (⟨vn (qD hcx) w hw.1,fun i=>(RowN.nil.c rfl rfl).c (by simp only[aq,ay,ax,Bool.and_self]) rfl⟩) (fun i hi=>rfl) (by decide) (rfl) (fun j hj=>absurd hj (Nat.not_lt_zero j)) ?rb_1 ?rd_1
 case rb_1=>
  intro i hi hF
  replace hcx:=hcx.rnd
  have eG:= @vo
  simp only[go_sem]
  have e54:=h54 _ (ht i hi) (hw.2.2 i hi)
  refine Tr.v hcx [] _ [none] rfl rfl rfl ?_ cu
  refine ⟨rfl,?_⟩
  refine Tr.k [2,4] ?_
  refine am ?_
  by_cases c1:dL (gt (aS w) i).2=true
  ·
   skip
   refine Tr.w hcx [] _ [] rfl rfl rfl ?_ cu
   refine aO rfl ?_
   refine Tr.skip ?_
   exact RoundQ.c (⟨rfl,fun j hj=>(Nat.lt_or_eq_of_le (Nat.le_of_lt_succ hj)).elim (hF j) (fun e=>by subst e;exact c1)⟩)
  replace c1:=(Bool.not_eq_true _).mp c1
  refine Tr.w hcx [] _ [] rfl rfl rfl ?_ cu
  refine bn rfl ?_
  have hR:=O3 c0 (O8 hi c1)
  refine Tr.w hcx [] _ [] rfl rfl rfl ?_ cu
  exact Tr.ret (RoundQ.r kL)
 case rd_1=>
  intro hF1
  have hO:=O7 hF1
  refine hK2 _ ?_
  refine ae fun K3 hK3=>?_
  by_cases c2:gY w=true
  ·
   skip
   refine Tr.w hcx [] _ [] rfl rfl rfl ?_ cu
   refine aO rfl ?_
   refine Tr.skip ?_
   refine hK3 _ ?_
   refine Tr.w hcx [] _ [none] rfl rfl rfl ?_ cu
   refine ae fun K4 hK4=>?_
   refine ab hcx 2 [.mp 3] ?_
   refine Tr.k [1,2,5] ?_
   refine bD hcx [0,1,3] ?_
   refine Tr.w hcx [] _ [] rfl rfl rfl ?_ cu
   refine am ?_
   refine Tr.k [1,2,5,25] ?_
   refine u6 ((aS w).length) (sL w) (fun i=>[some [sl vC .no w],some [.val (nI 0)],some (ef (d9 (d4 ((ey w).take i))))]) (RowN) (fun i=>((ey w).take i).Nodup) rfl (⟨vn (qD hcx) w hw.1,fun i=>((RowN.nil.m (nV _)).c rfl rfl).c (by simp only[aq,ay,ax,Bool.and_self]) rfl⟩) (fun i hi=>rfl) (by decide) (rfl) (List.nodup_nil) ?rb_2 ?rd_2
   case rb_2=>
    intro i hi hF
    replace hcx:=hcx.rnd
    have eG:= @vo
    simp only[go_sem]
    have hIl:i< (ey w).length:=by rw[pL];exact hi
    have hg:=xk w i hi
    have hM:OkI (d4 ((ey w).take i)):=rE fun x hx=>by
     obtain ⟨j,hj,rfl⟩:=List.getElem_of_mem (List.mem_of_mem_take hx)
     have hj2:j< (aS w).length:=by rw[←pL];exact hj
     have:=hid j hj2
     rw[←xk w j hj2] at this
     simpa[gt,List.getD,List.getElem?_eq_getElem hj] using this
    have ex:=hid i hi
    have hm0:=FU (l:=(ey w).take i) (x:=gt (ey w) i)
    have hS2:=xh (ey w) i hIl
    have hD:=Kx hIl
    have hE:=Ky hIl hF
    obtain ⟨P,hP⟩:∃P,(gt (aS w) i).2=P:=⟨_,rfl⟩
    rw[hP] at ex hg
    rw[hP]
    rw[hg] at hm0 hS2 hD hE
    obtain ⟨S,hS⟩:∃S,d4 ((ey w).take i) =S:=⟨_,rfl⟩
    rw[hS] at hM hm0 hS2
    rw[hS]
    have ep:=And.intro (fun a b r=>CZ (cx:=j5 gl 51 pu) rfl rfl (h:=a::b::some (ef (d9 S))::r) (b:=2) rfl hM ex) (fun a b r=>H9 (cx:=j5 gl 51 pu) rfl rfl (h:=a::b::some (ef (d9 S))::r) (b:=2) rfl hM ex)
    refine Tr.v hcx [] _ [none] rfl rfl rfl ?_ cu
    refine ⟨rfl,?_⟩
    refine Tr.k [2,5,7] ?_
    refine am ?_
    refine ae fun K5 hK5=>?_
    by_cases c3:P.1∈S
    ·
     refine Tr.w hcx [] _ [] rfl rfl rfl ?_ cu
     refine bn rfl ?_
     have hR:=O5 c0 hO c2 (hD (hm0.1 c3))
     refine Tr.w hcx [] _ [] rfl rfl rfl ?_ cu
     exact Tr.ret (RoundQ.r kL)
    refine Tr.w hcx [] _ [] rfl rfl rfl ?_ cu
    refine aO rfl ?_
    refine Tr.skip ?_
    refine hK5 _ ?_
    refine Tr.v hcx [] _ [] rfl rfl rfl ?_ cu
    exact RoundQ.c (⟨by simp only[←hS2];rfl,hE (fun h=>c3 (hm0.2 h))⟩) (Pc)
   case rd_2=>
    intro hF2
    have hN: (ey w).Nodup:=by rw[←pL,List.take_length] at hF2;exact hF2
    refine hK4 _ ?_
    refine Tr.w hcx [] _ [none] rfl rfl rfl ?_ cu
    refine ae fun K6 hK6=>?_
    refine Tr.k [1,2,8] ?_
    refine bD hcx [0,1,3] ?_
    refine Tr.w hcx [] _ [] rfl rfl rfl ?_ cu
    refine am ?_
    refine Tr.k [2,8,36] ?_
    refine bD hcx [1,2] ?_
    refine u6 ((aS w).length) (sL w) (fun i=>[some [.val (nI 0)],some [.val (.int .i64 (u7 w i))]]) (RowN) (fun i=> ∀j,j< i→lm w j=true) rfl (⟨vn (qD hcx) w hw.1,fun i=>(RowN.nil.c rfl rfl).c rfl rfl⟩) (fun i hi=>rfl) (by decide) (rfl) (fun j hj=>absurd hj (Nat.not_lt_zero j)) ?rb_3 ?rd_3
    case rb_3=>
     intro i hi hF
     replace hcx:=hcx.rnd
     have eG:= @vo
     simp only[go_sem]
     have hsT:=O9 (w:=w) (j:=i)
     have hsF:=Pa (w:=w) (j:=i)
     have hbS:u7 w (i+1) = (gt (aS w) i).2.2.1:=rfl
     obtain ⟨P,hP⟩:∃P,(gt (aS w) i).2=P:=⟨_,rfl⟩
     obtain ⟨B,hB⟩:∃B,u7 w i=B:=⟨_,rfl⟩
     obtain ⟨X,hX⟩:∃X,(gt (aS w) i).1.2.2=X:=⟨_,rfl⟩
     rw[hP] at hsT hsF hbS
     rw[hP]
     rw[hB] at hsT hsF
     rw[hB]
     rw[hX] at hsT hsF
     have hPx:=And.intro hP hX
     refine Tr.w hcx [] _ [none] rfl rfl rfl ?_ cu
     refine Tr.v hcx [] _ [none] rfl rfl rfl ?_ cu
     refine ⟨rfl,?_⟩
     refine Tr.k [2,8,9,10] ?_
     refine am ?_
     refine ae fun K7 hK7=>?_
     by_cases d1:X=0
     ·
      have d1o:=d1
      replace d1:=eq_true d1
      refine Tr.w hcx [] _ [] rfl rfl rfl ?_ cu
      refine bn rfl ?_
      refine Tr.v hcx [] _ [] rfl rfl rfl ?_ cu
      refine hK7 _ ?_
      refine ae fun K8 hK8=>?_
      by_cases d2:P.2.1= ((1:Nat):Int)
      ·
       have d2o:=d2
       replace d2:=eq_true d2
       have d3:=True.intro
       refine Tr.w hcx [] [some 42,some 43,some 44,some 45,some 46,some 47,some 48] [] rfl rfl rfl ?_ cu
       refine bn rfl ?_
       have hR:=B1 c0 hO c2 hN (B2 hi (hsF d2o (.inl d1o)))
       refine Tr.w hcx [] _ [] rfl rfl rfl ?_ cu
       exact Tr.ret (RoundQ.r kL)
      have d2o:=d2
      replace d2:=eq_false d2
      have d3:=True.intro
      refine Tr.w hcx [] [some 42,some 43,some 44,some 45,some 46,some 47,some 48] [] rfl rfl rfl ?_ cu
      refine aO rfl ?_
      refine Tr.skip ?_
      refine hK8 _ ?_
      refine Tr.v hcx [] _ [] rfl rfl rfl ?_ cu
      exact RoundQ.c (⟨by simp only[hbS];rfl,fun j hj=>(Nat.lt_or_eq_of_le (Nat.le_of_lt_succ hj)).elim (hF j) (fun e=>by subst e;exact hsT (by rintro ⟨q1,q2⟩;first|exact d2o q1|exact q2.elim d1o d3o))⟩)
     have d1o:=d1
     replace d1:=eq_false d1
     refine Tr.w hcx [] _ [] rfl rfl rfl ?_ cu
     refine aO rfl ?_
     refine Tr.skip ?_
     refine hK7 _ ?_
     refine ae fun K9 hK9=>?_
     by_cases d2:P.2.1= ((1:Nat):Int)
     ·
      have d2o:=d2
      replace d2:=eq_true d2
      by_cases d3:B= ((2:Nat):Int)
      ·
       have d3o:=d3
       replace d3:=eq_true d3
       skip
       refine Tr.w hcx [] [some 42,some 43,some 44,some 45,some 46,some 47,some 48] [] rfl rfl rfl ?_ cu
       refine bn rfl ?_
       have hR:=B1 c0 hO c2 hN (B2 hi (hsF d2o (.inr d3o)))
       refine Tr.w hcx [] _ [] rfl rfl rfl ?_ cu
       exact Tr.ret (RoundQ.r kL)
      have d3o:=d3
      replace d3:=eq_false d3
      skip
      refine Tr.w hcx [] [some 42,some 43,some 44,some 45,some 46,some 47,some 48] [] rfl rfl rfl ?_ cu
      refine aO rfl ?_
      refine Tr.skip ?_
      refine hK9 _ ?_
      refine Tr.v hcx [] _ [] rfl rfl rfl ?_ cu
      exact RoundQ.c (⟨by simp only[hbS];rfl,fun j hj=>(Nat.lt_or_eq_of_le (Nat.le_of_lt_succ hj)).elim (hF j) (fun e=>by subst e;exact hsT (by rintro ⟨q1,q2⟩;first|exact d2o q1|exact q2.elim d1o d3o))⟩)
     have d2o:=d2
     replace d2:=eq_false d2
     have d3:=True.intro
     refine Tr.w hcx [] [some 42,some 43,some 44,some 45,some 46,some 47,some 48] [] rfl rfl rfl ?_ cu
     refine aO rfl ?_
     refine Tr.skip ?_
     refine hK9 _ ?_
     refine Tr.v hcx [] _ [] rfl rfl rfl ?_ cu
     exact RoundQ.c (⟨by simp only[hbS];rfl,fun j hj=>(Nat.lt_or_eq_of_le (Nat.le_of_lt_succ hj)).elim (hF j) (fun e=>by subst e;exact hsT (by rintro ⟨q1,q2⟩;first|exact d2o q1|exact q2.elim d1o d3o))⟩)
    case rd_3=>
     intro hF3
     have hR:=O6 c0 hO c2 hN (Pb hF3)
     refine hK6 _ ?_
     refine Tr.w hcx [] _ [] rfl rfl rfl ?_ cu
     exact Tr.ret kL
  replace c2:=(Bool.not_eq_true _).mp c2
  refine Tr.w hcx [] _ [] rfl rfl rfl ?_ cu
  refine bn rfl ?_
  have hR:=O4 c0 hO c2
  refine Tr.w hcx [] _ [] rfl rfl rfl ?_ cu
  exact Tr.ret kL
end Go.Sx
namespace Go.Sx
open Go.RowKit
structure Mk (P:Program) (gl:Nat→C) (f:Nat) (α:Type) where
 args:α→List C
 r:α→C
 Y:α→Hp
 nr:∀a,noRefs 0 (args a) =true
 inj:∀a b,args a=args b→r a=r b∧Y a=Y b
 fc:∀a,FC P gl f (args a) [] (r a) (Y a)
section
variable {P:Program} {gl:Nat→C} {f:Nat} {α:Type}
abbrev NU (α:Type):=α× {h:Hp // OkH h}
def Mk.enc (S:Mk P gl f α)(x:NU α):List C×Hp:=(S.args x.1,x.2.1)
def Mk.out (S:Mk P gl f α)(x:NU α):C×Hp:=(cV (x.2.1.length+ ·) (S.r x.1),x.2.1++eL x.2.1.length (S.Y x.1))
theorem Mk.ij (S:Mk P gl f α)(x y:NU α)(h:S.enc x=S.enc y):S.out x=S.out y:=by
 obtain ⟨a,k,hk⟩:=x;obtain ⟨b,m,hm⟩:=y
 simp only[Mk.enc,Prod.mk.injEq] at h
 obtain ⟨h1,rfl⟩:=h
 obtain ⟨q1,q2⟩:=S.inj a b h1
 simp only[Mk.out,q1,q2]
noncomputable def Mk.tab (S:Mk P gl f α)(hp:Nat→List C→Hp→Option (C×Hp)):Nat→List C→Hp→Option (C×Hp):=extH hp f (pr S.enc S.out)
theorem uO {km:TypeId→Value→Bool}{pu:Nat→List C→Option C}{hp:Nat→List C→Hp→Option (C×Hp)}{N M:Nat}(hcx:CxOK ⟨P,N,gl,pu,hp,fun _=>false,km,true⟩)(S:Mk P gl f α):
 CxOK ⟨P,M,gl,pu,S.tab hp,fun _=>false,km,true⟩:=CxOK.extH hcx fun x=>by
 obtain ⟨a,pre,hpre⟩:=x
 have h:=FC.pre (S.fc a) pre hpre (fun o ho=>by cases ho) (S.nr a) (fun o ho=>by cases ho) (Nat.zero_le _) hcx.glo
 rw[bks_nr _ _ (S.nr a),show eL pre.length ([]:Hp) = [] from rfl,List.append_nil] at h
 exact h
theorem Mk.look (S:Mk P gl f α)(hp:Nat→List C→Hp→Option (C×Hp))(a:α)(pre:Hp)(h1:OkH pre):
 S.tab hp f (S.args a) pre=some (cV (pre.length+ ·) (S.r a),pre++eL pre.length (S.Y a)):=
 (uu _ _).trans (ES S.ij (a,⟨pre,h1⟩))
theorem rA (S:Mk P gl f α)(hp:Nat→List C→Hp→Option (C×Hp)){g:Nat}(h:g≠f)(xs:List C)(k:Hp):S.tab hp g xs k=hp g xs k:=sA h xs k
end
end Go.Sx
namespace Go.Sx
open Go.RowKit Go.Proofs
set_option maxRecDepth 100000
set_option maxHeartbeats 8000000
theorem Pd (a b c d e f g x y z:C):dP [a,b,c,d,e,f,g] 0 [x,y,z] =some ([x,y,z,d,e,f,g],.val undef):=rfl
attribute [go_sem high] Pd
theorem Kz (u:TypeDesc)(y:Nat)(a0 a1 a2 a3 a4 a5 a6 b0 b1 b2 b3 b4 b5 b6 c0 c1 c2 c3 c4 c5 c6:C):GN 37 (some ⟨u,7,y,[nI 0,nI 0,nI 0,nI 0,nI 0,str [],.slice none 0 0]⟩) 3 [(0,.agg [a0,a1,a2,a3,a4,a5,a6]),(1,.agg [b0,b1,b2,b3,b4,b5,b6]),(2,.agg [c0,c1,c2,c3,c4,c5,c6])] =some (.ap none (7,37) 3 fun _=>some [a0.noR,a1.noR,a2.noR,a3.noR,a4.noR,a5.noR,a6.noR,b0.noR,b1.noR,b2.noR,b3.noR,b4.noR,b5.noR,b6.noR,c0.noR,c1.noR,c2.noR,c3.noR,c4.noR,c5.noR,c6.noR]):=rfl
theorem KA (u:TypeDesc)(y:Nat)(a b:C):GN 48 (some ⟨u,2,y,[str [],.slice none 0 0]⟩) 1 [(0,.agg [a,b])] =some (.ap none (2,48) 1 fun _=>some [a.noR,b.noR]):=rfl
theorem KB (u:TypeDesc)(y:Nat)(a:C):GN 46 (some ⟨u,1,y,[.slice none 0 0]⟩) 1 [(0,.agg [a])] =some (.ap none (1,46) 1 fun _=>some [a.noR]):=rfl
attribute [go_sem high] Kz KA KB
def s9:List UInt8:=[116,104,101,32,107,105,110,103,32,64]
def qH:List UInt8:=[97,32,108,121,114,101]
def qI:List UInt8:=[114,111,109,101]
def co:List UInt8:=[79,100,101,115]
def exPs:List aI:=[((0,0,0),0,0,s9,[(0,1,0)]),((0,1,0),1,0,qH,[]),((0,2,0),2,0,qI,[])]
theorem u9 {p:Prop}(e:p:=by intro KZ hZ;simp -implicitDefEqProofs (disch:=first|omega| (simp only[go_sem,lA,lD,lT] <;>omega) |decide) only[go_sem,↓reduceIte,Nat.reduceEqDiff,reduceCtorEq,Nat.reduceLT,Nat.reduceBEq,Nat.reduceAdd,hy];with_reducible exact hZ):p:=e
theorem Pe {p:Prop}(e:p:=by simp -implicitDefEqProofs (disch:=first|omega| (simp only[go_sem,lA,lD,lT] <;>omega) |decide) only[go_sem,↓reduceIte,Nat.reduceEqDiff,reduceCtorEq];all_goals (rfl)):p:=e
theorem UY {gl:Nat→C}{M:Nat}{pu:Nat→List C→Option C}(hcx:CxOK (aD gl M pu)):FC Tryd.prog gl 64 [] [] (.agg [.gv 3 1 (1,46)]) [some [.gv 3 1 (1,46)],some (cl pC exPs),some [.val (str co),.gv 1 3 (7,37)],some [.gv 2 1 (2,48)]]:=by
 replace hcx:=hcx.reN (M:=16)
 refine Bc (cx:=aD gl 16 pu) (rs:=[.cell 0 29]) rfl Tryd.func64 rfl rfl rfl (by simp only[List.length_cons,List.length_nil];decide) ?_
 simp only[cZ,go_sem]
 have hy:=True.intro
 refine Tr.w hcx [] _ [none] rfl rfl rfl ?_ u9
 refine s6 hcx [9] [1000009] _ [] rfl rfl rfl ?_ u9
 refine s6 hcx [12,14] [] _ [] rfl rfl rfl ?_ u9
 refine Tr.bxc 1 6 (sl iD .no [(0,1,0)]) _ rfl rfl (CLe.full ..) rfl ?_
 refine Tr.bxc 1 13 (sl iD .no []) _ rfl rfl (bH rfl) rfl ?_
 refine Tr.bxc 1 20 (sl iD .no []) _ rfl rfl (bH rfl) rfl ?_
 simp only[List.set_cons_succ,List.set_cons_zero]
 exact Tr.ret Pe
end Go.Sx
