/-
   And what follows.
-/
import Derived.Test.YtcpdlhgkdogdjaaDoorPam
set_option linter.unusedSimpArgs false
set_option linter.unusedVariables false
namespace Go.Sx
open Go.RowKit Go.Proofs
set_option maxRecDepth 100000
set_option maxHeartbeats 8000000
theorem GY (y:Nat) (a b c:Nat) :fE (some ⟨.struct #[Field.mk "By" 3 0 false "" "" 0,Field.mk "Seq" 3 1 false "" "" 8,Field.mk "K" 3 2 false "" "" 16],3,y,[nI 0,nI 0,nI 0]⟩) 1 [(0,.agg [.val (nI a),.val (nI b),.val (nI c)])] =some (vp (sl iD .full [((a:Int),(b:Int),(c:Int))])) :=rfl
attribute [go_sem high] GY
def formT:List Nat:=[0,0,0,1,3,0,2,1]
def manyT:List Nat:=[0,0,0,0,1,2]
def pM (l:List Int)(a i:Nat):ID:=if bR l (a+3+i) 9=8 then (-1,0,0) else (0,(bR l (a+3+i) 9:Int),0)
def jb (l:List Int)(a n:Nat):List ID:=(List.range n).map (pM l a)
theorem oP (l:List Int)(a n:Nat):jb l a (n+1) =jb l a n++[pM l a n]:=by unfold jb;rw[List.range_succ,List.map_append];rfl
theorem nN (l:List Int)(a n:Nat): (jb l a n).length=n:=by simp[jb]
def gh (l:List Int)(a:Nat):Nat→List UInt8
 |0=>fj l (a+2)
 |n+1=>gh l a n++[32,64]
theorem kG (l:List Int)(a:Nat):∀n,(gh l a n).length≤72+2*n
 |0=>(ja l (a+2)).2.1
 |n+1=>by
  have:=kG l a n
  simp only[gh,List.length_append,List.length_cons,List.length_nil];omega
def iu (l:List Int)(a:Nat):Nat:=gt manyT (bR l (a+1) 6)
theorem pN (l:List Int)(a:Nat):iu l a≤2:=by
 have h:=dO l (a+1) (m:=6) (by decide)
 have:=oG manyT (fun n=>decide (n≤2)) (by decide) _ h
 simpa[iu] using this
def fT (l:List Int)(a:Nat)(id:ID):aN:=(id,((gt formT (bR l a 8):Nat):Int),((bR l (a+1) 8 / 3:Nat):Int),gh l a (iu l a),jb l a (iu l a))
theorem GZ (n:Nat)(l:List Nat)(i:Nat)(x:Nat)(r:List (Nat×C))(h:i< l.length):fO n (cl nC l) ((i,.val (nI x))::r) =fO n (cl nC (l.set i x)) r:=by
 have e:=sb (f:=nC) l i x h
 rw[Nat.mul_one] at e
 have e2:splice (cl nC l) i [.val (nI x)] =cl nC (l.set i x):=e
 show (if [C.val (nI x)].length=1∧i+1≤(cl nC l).length then fO n (splice (cl nC l) i [.val (nI x)]) r else none) =_
 rw[if_pos ⟨rfl,by rw[aw (f:=nC)];omega⟩,e2]
attribute [go_sem] GZ
theorem CM (pl:List (Nat×Nat))(x:ID)(a b c d e f g:C)(r:List (Nat×C)):vP pl (some (0,3)) (some (iD x)) [a,b,c,d,e,f,g] r=layS pl [.val (.int .i64 x.1),.val (.int .i64 x.2.1),.val (.int .i64 x.2.2),d,e,f,g] r:=rfl
attribute [go_sem high] CM
theorem th:sl nC .full (((((((((List.replicate 8 0).set 0 0).set 1 0).set 2 0).set 3 1).set 4 3).set 5 0).set 6 2).set 7 1) =sl nC .full formT:=rfl
theorem nO:formT.length=8:=rfl
theorem ti:sl nC .full (((((((List.replicate 6 0).set 0 0).set 1 0).set 2 0).set 3 0).set 4 1).set 5 2) =sl nC .full manyT:=rfl
theorem nP:manyT.length=6:=rfl
theorem G5 (y:Nat) (a:Int) (b c:Nat) :fE (some ⟨.struct #[Field.mk "By" 3 0 false "" "" 0,Field.mk "Seq" 3 1 false "" "" 8,Field.mk "K" 3 2 false "" "" 16],3,y,[nI 0,nI 0,nI 0]⟩) 1 [(0,.agg [.val (.int .i64 a),.val (nI b),.val (nI c)])] =some (vp (sl iD .full [(a,(b:Int),(c:Int))])) :=rfl
attribute [go_sem high] G5
theorem zn {l:List Int}{a i:Nat}(h:bR l (a+3+i) 9=8):pM l a i= (-1,0,0):=if_pos h
theorem zo {l:List Int}{a i:Nat}(h:¬bR l (a+3+i) 9=8):pM l a i= (0,(bR l (a+3+i) 9:Int),0):=if_neg h
theorem zp {p:Prop}(e:p:=by intro KZ hZ;simp -implicitDefEqProofs (disch:=first|omega| (simp only[go_sem,lA,lD,lT] <;>omega) |decide) only[go_sem,↓reduceIte,Nat.reduceEqDiff,reduceCtorEq,Nat.reduceLT,Nat.reduceBEq,Nat.reduceAdd,hy];with_reducible exact hZ):p:=e
theorem Lt {p:Prop}(e:p:=by simp -implicitDefEqProofs (disch:=first|omega| (simp only[go_sem,lA,lD,lT] <;>omega) |decide) only[go_sem,↓reduceIte,Nat.reduceEqDiff,reduceCtorEq]):p:=e
theorem P2 {gl:Nat→C}{M:Nat}{pu:Nat→List C→Option C}(hcx:CxOK (aS gl M pu)):FC Tryd.prog gl 67 [] [] (.agg [.val (.int .i64 (-1)),.val (nI 0),.val (nI 0)]) []:=by
 replace hcx:=hcx.reN (M:=2)
 refine cf (cx:=aS gl 2 pu) (rs:=[.cell 0 34]) rfl Tryd.func67 rfl rfl rfl (by simp only[List.length_cons,List.length_nil];decide) (by simp only[go_sem]) ?_
 simp only[dm,go_sem]
 have hy:=True.intro
 refine Tr.w hcx [] _ [none] rfl rfl rfl ?_ zp
 refine Tr.w hcx [] _ [] rfl rfl rfl ?_ zp
 exact Tr.ret Lt
theorem eY {p:Prop}(e:p:=by intro KZ hZ;simp -implicitDefEqProofs (maxSteps:=2000000) (disch:=first|omega| (simp only[go_sem,lA,lD,lT,nO,nP] <;>omega) |decide) only[go_sem,↓reduceIte,Nat.reduceEqDiff,reduceCtorEq,Nat.reduceLT,Nat.reduceBEq,Nat.reduceAdd,h67,e65,e66,th,ti,hy];with_reducible exact hZ):p:=e
theorem Lu {p:Prop}(e:p:=by intro KZ hZ;simp -implicitDefEqProofs (maxSteps:=2000000) (disch:=first|omega| (simp only[go_sem,lA,lD,lT,nO,nP] <;>omega) |decide) only[go_sem,↓reduceIte,Nat.reduceEqDiff,reduceCtorEq,Nat.reduceLT,Nat.reduceBEq,Nat.reduceAdd,h67,e65,e66,th,ti,hy];with_reducible refine And.intro ?_ hZ;first|exact rfl|decide):p:=e
theorem Lv {p:Prop}(e:p:=by simp -implicitDefEqProofs (disch:=first|omega| (simp only[go_sem,lA,lD,lT,nO,nP] <;>omega) |decide) only[go_sem,↓reduceIte,Nat.reduceEqDiff,reduceCtorEq];all_goals (rfl)):p:=e
theorem P3 {gl:Nat→C}{M:Nat}{pu:Nat→List C→Option C}(hcx:CxOK (aS gl M pu))(h65:∀ (l:List Int) (i m:Nat),LI l→i≤1000000∧0< m∧m≤9223372036854775807→pu 65 [sl iC .no l,.val (nI i),.val (nI m)] =some (.val (nI (bR l i m))))(h66:∀ (l:List Int) (k:Nat),LI l→k≤1000→pu 66 [sl iC .no l,.val (nI k)] =some (.val (str (fj l k))))(h67:pu 67 [] =some (.agg [.val (.int .i64 (-1)),.val (nI 0),.val (nI 0)]))(l:List Int)(k:Nat)(id:ID)(hl:LI l)(hk:k≤900):FC Tryd.prog gl 21 [sl iC .no l,.val (nI k),.agg (iD id)] [] (.agg (pC (fT l k id))) []:=by
 replace hcx:=hcx.reN (M:=62)
 refine cf (cx:=aS gl 62 pu) (rs:=[.cell 6 37]) rfl Tryd.func21 rfl rfl rfl (by simp only[List.length_cons,List.length_nil];decide) (by simp only[go_sem]) ?_
 simp only[dm,go_sem]
 have hy:=True.intro
 have e65:=fun i m h=>h65 l i m hl h
 have e66:=fun k h=>h66 l k hl h
 have hA:=dO l k (m:=8) (by decide)
 have hB:=dO l (k+1) (m:=6) (by decide)
 have hB8:=dO l (k+1) (m:=8) (by decide)
 have hN:=pN l k
 unfold iu at hN
 have hl1:=hl.1
 refine Tr.w hcx [] _ [none,none] rfl rfl rfl ?_ eY
 refine bB hcx aW [] _ [none] rfl rfl rfl rfl ?_ Lu
 refine Tr.k [0,1,6,7] ?_
 refine Tr.w hcx [1000034] _ [] rfl rfl rfl ?_ eY
 refine af fun K1 hK1=>?_
 refine Tr.w hcx [] _ [] rfl rfl rfl ?_ eY
 refine Tr.k [0,1,6,7,8,9] ?_
 refine ax ?_
 refine Tr.k [0,1,6,7,8,9] ?_
 refine ah hcx [1,2] ?_
 refine Tr.bxc 1 6 (sl iD (.own 3) []) _ rfl rfl (bS rfl) rfl ?_
 simp only[List.set_cons_succ,List.set_cons_zero]
 refine bz (α:=Nat) (fun a=>[(0,?v0_1),(1,?v1_1),(6,?v6_1),(7,?v7_1),(8,?v8_1),(9,.val (nI a))]) (fun a=>[some [.val (nI 0),.val (nI 0),.val (nI 0),.val (nI 0),.val (nI 0),.val (str []),.val (.slice none 0 0)],some [.val (.int .i64 id.1),.val (.int .i64 id.2.1),.val (.int .i64 id.2.2),.val (nI (gt formT (bR l k 8))),.val (nI (bR l (k+1) 8 / 3)),.val (str (gh l k a)),sl iD (.own 3) (jb l k a)]]) (fun a=>a≤gt manyT (bR l (k+1) 6)) (fun a=>gt manyT (bR l (k+1) 6) - a) (0) (Nat.zero_le _) ?le_1 ?hh_1 ?bd_1
 case hh_1=>exact rfl
 case le_1=>exact LT
 rintro i hi
 have hP:=nN l k i
 have hT:=kG l k i
 refine af fun K2 hK2=>?_
 refine Tr.w hcx [] _ [] rfl rfl rfl ?_ eY
 refine bc rfl (fun hc37=>?_) (fun hc37=>?_)
 ·
  refine Tr.skip ?_
  refine hK2 _ ?_
  refine af fun K3 hK3=>?_
  refine ax ?_
  refine Tr.w hcx [] _ [] rfl rfl rfl ?_ eY
  refine Tr.w hcx [] _ [none] rfl rfl rfl ?_ eY
  refine af fun K4 hK4=>?_
  refine Tr.w hcx [] _ [] rfl rfl rfl ?_ eY
  refine bc rfl (fun hc53=>?_) (fun hc53=>?_)
  ·
   refine Tr.v hcx [] _ [] rfl rfl rfl ?_ eY
   refine hK4 _ ?_
   refine Tr.k [0,1,6,7,8,9,10] ?_
   refine Tr.v hcx [56] _ [] rfl rfl rfl ?_ eY
   refine hK3 _ ?_
   refine Tr.k [0,1,6,7,8,9] ?_
   refine ah hcx [0,1] ?_
   refine Tr.v hcx [1000039] _ [] rfl rfl rfl ?_ eY
   exact ⟨i+1,⟨(by omega),O1⟩,LT,by first| (simp only[oP,zn hc53];rfl) | (simp only[oP,zo hc53];rfl)⟩
  refine Tr.skip ?_
  refine hK4 _ ?_
  refine Tr.k [0,1,6,7,8,9,10] ?_
  refine Tr.v hcx [56] _ [] rfl rfl rfl ?_ eY
  refine hK3 _ ?_
  refine Tr.k [0,1,6,7,8,9] ?_
  refine ah hcx [0,1] ?_
  refine Tr.v hcx [1000039] _ [] rfl rfl rfl ?_ eY
  exact ⟨i+1,⟨(by omega),O1⟩,LT,by first| (simp only[oP,zn hc53];rfl) | (simp only[oP,zo hc53];rfl)⟩
 obtain rfl:i=gt manyT (bR l (k+1) 6):=by omega
 refine Tr.exit ?_
 refine hK1 _ ?_
 refine Tr.w hcx [] _ [] rfl rfl rfl ?_ eY
 exact Tr.ret Lv
end Go.Sx
namespace Go.Sx
open Go.RowKit Go.Proofs
set_option maxRecDepth 100000
set_option maxHeartbeats 8000000
theorem G6 (u:TypeDesc)(y:Nat)(t:List UInt8)(l:List aN):fE (some ⟨u,2,y,[str [],.slice none 0 0]⟩) 1 [(0,.agg [.val (str t),sl pC .no l])] =some (vp (sl aC .full [(t,l)])):=rfl
theorem G7 (u:TypeDesc)(y:Nat)(l:bY):fE (some ⟨u,1,y,[.slice none 0 0]⟩) 1 [(0,.agg [sl aC .no l])] =some (vp (sl vC .full [l])):=rfl
theorem CN (x:aN)(n:Nat):dJ (pC x) 3 [.val (nI n)] =some (pC (x.1,(n:Int),x.2.2),.val undef):=rfl
attribute [go_sem high] G6 G7 CN
def lQ (p:aN)(j:Nat)(ps:List aN):aN:=if p.2.1= ((1:Nat):Int)∧(j=0∨(gt ps (j - 1)).2.1= ((2:Nat):Int)) then (p.1,((0:Nat):Int),p.2.2) else p
def eQ (l:List Int)(n:Nat):Nat→List aN
 |0=>[]
 |j+1=>eQ l n j++[lQ (fT l (9+4*(n+j)) (((0:Nat):Int),((n+j:Nat):Int),((0:Nat):Int))) j (eQ l n j)]
theorem jW (l:List Int)(n:Nat):∀j,(eQ l n j).length=j
 |0=>rfl
 |j+1=>by simp[eQ,jW l n j]
def jc (l:List Int)(i k n:Nat):Nat:=min (1+bR l (5+2*i+k) 3) (8 - n)
def dq (l:List Int)(i n:Nat):Nat→List fH×Nat
 |0=>([],n)
 |k+1=>((dq l i n k).1++[(fj l (3+i+k),eQ l (dq l i n k).2 (jc l i k (dq l i n k).2))],(dq l i n k).2+jc l i k (dq l i n k).2)
theorem mm (l:List Int)(i n:Nat):∀k,(dq l i n k).1.length=k
 |0=>rfl
 |k+1=>by simp[dq,mm l i n k]
theorem lR (l:List Int)(i n:Nat)(h:n≤8):∀k,(dq l i n k).2≤8
 |0=>h
 |k+1=>by
  have:=lR l i n h k
  simp only[dq,jc];omega
def dr (l:List Int):Nat→List bY×Nat
 |0=>([],0)
 |i+1=>((dr l i).1++[(dq l i (dr l i).2 (1+bR l (1+i) 2)).1],(dq l i (dr l i).2 (1+bR l (1+i) 2)).2)
theorem pO (l:List Int):∀i,(dr l i).1.length=i
 |0=>rfl
 |i+1=>by simp[dr,pO l i]
theorem lS (l:List Int):∀i,(dr l i).2≤8
 |0=>Nat.zero_le _
 |i+1=>lR l i _ (lS l i) _
def js (l:List Int):aj:=(dr l (1+bR l 0 4 / 3)).1
theorem v9 {p:aN}{j:Nat}{ps:List aN}(h:p.2.1= ((1:Nat):Int))(h2:j=0∨(gt ps (j - 1)).2.1= ((2:Nat):Int)):lQ p j ps= (p.1,((0:Nat):Int),p.2.2):=if_pos ⟨h,h2⟩
theorem wa {p:aN}{j:Nat}{ps:List aN}(h:¬ (p.2.1= ((1:Nat):Int)∧(j=0∨(gt ps (j - 1)).2.1= ((2:Nat):Int)))):lQ p j ps=p:=if_neg h
theorem P4 (n:Nat):max n 0=n:=Nat.max_eq_left (Nat.zero_le n)
theorem bv {p:Prop}(e:p:=by intro KZ hZ;simp -implicitDefEqProofs (maxSteps:=2000000) (disch:=first|omega| (simp only[go_sem,lA,lD,lT,hx1,hx2,hx3,hx4,hx5,hx6] <;>omega) |decide) only[go_sem,↓reduceIte,Nat.reduceEqDiff,reduceCtorEq,Nat.reduceLT,Nat.reduceBEq,Nat.reduceAdd,e65,e66,e21,hPx,P4,c4,c5,c1,c2,c3,hy];with_reducible exact hZ):p:=e
theorem Lw {p:Prop}(e:p:=by simp -implicitDefEqProofs (disch:=first|omega| (simp only[go_sem,lA,lD,lT,hx1,hx2,hx3,hx4,hx5,hx6] <;>omega) |decide) only[go_sem,↓reduceIte,Nat.reduceEqDiff,reduceCtorEq];all_goals (rfl)):p:=e
theorem P5 {gl:Nat→C}{M:Nat}{pu:Nat→List C→Option C}(hcx:CxOK (aS gl M pu))(h65:∀ (l:List Int) (i m:Nat),LI l→i≤1000000∧0< m∧m≤9223372036854775807→pu 65 [sl iC .no l,.val (nI i),.val (nI m)] =some (.val (nI (bR l i m))))(h66:∀ (l:List Int) (k:Nat),LI l→k≤1000→pu 66 [sl iC .no l,.val (nI k)] =some (.val (str (fj l k))))(h21:∀ (l:List Int) (k:Nat) (id:ID),LI l→k≤900→pu 21 [sl iC .no l,.val (nI k),.agg (iD id)] =some (.agg (pC (fT l k id))))(l:List Int)(hl:LI l):FC Tryd.prog gl 18 [sl iC .no l] [] (.agg [sl vC .no (js l)]) []:=by
 replace hcx:=hcx.reN (M:=104)
 refine cf (cx:=aS gl 104 pu) (rs:=[.cell 2 29]) rfl Tryd.func18 rfl rfl rfl (by simp only[List.length_cons,List.length_nil];decide) (by simp only[go_sem]) ?_
 simp only[dm,go_sem]
 have c4:=True.intro
 have c5:=True.intro
 have c1:=True.intro
 have c2:=True.intro
 have c3:=True.intro
 have hy:=True.intro
 have e65:=fun i m h=>h65 l i m hl h
 have e66:=fun k h=>h66 l k hl h
 have e21:∀k n:Nat,k≤900→pu 21 [sl iC .no l,.val (nI k),.agg [.val (nI 0),.val (nI n),.val (nI 0)]] =some (.agg (pC (fT l k (((0:Nat):Int),(n:Int),((0:Nat):Int))))):=fun k n h=>h21 l k (((0:Nat):Int),(n:Int),((0:Nat):Int)) hl h
 have hA:=dO l 0 (m:=4) (by decide)
 have hx1:=True.intro
 have hx2:=True.intro
 have hx3:=True.intro
 have hx4:=True.intro
 have hx5:=True.intro
 have hx6:=True.intro
 have hPx:=True.intro
 refine Tr.w hcx [] _ [none] rfl rfl rfl ?_ bv
 refine Tr.w hcx [] _ [none] rfl rfl rfl ?_ bv
 refine Tr.w hcx [] _ [] rfl rfl rfl ?_ bv
 refine Tr.w hcx [1000017] _ [] rfl rfl rfl ?_ bv
 refine af fun K1 hK1=>?_
 refine Tr.w hcx [] _ [] rfl rfl rfl ?_ bv
 refine Tr.k [0,2,3,4,5,6] ?_
 refine ax ?_
 refine Tr.bxc 1 0 (sl vC (.own 1) []) _ rfl rfl (bS rfl) rfl ?_
 simp only[List.set_cons_succ,List.set_cons_zero]
 refine bz (α:=Nat) (fun a=>[(0,?v0_1),(2,?v2_1),(3,?v3_1),(4,.val (nI (dr l a).2)),(5,?v5_1),(6,.val (nI a))]) (fun a=>[some [.val (.slice none 0 0)],some [sl vC (.own 1) (dr l a).1]]) (fun a=>a≤1+bR l 0 4 / 3) (fun a=>1+bR l 0 4 / 3 - a) (0) (Nat.zero_le _) ?le_1 ?hh_1 ?bd_1
 case hh_1=>exact rfl
 case le_1=>exact LT
 rintro i hi
 have hx1:=pO l i
 have hx2:=lS l i
 have hB:=dO l (1+i) (m:=2) (by decide)
 refine af fun K2 hK2=>?_
 refine Tr.w hcx [] _ [] rfl rfl rfl ?_ bv
 refine bc rfl (fun hc20=>?_) (fun hc20=>?_)
 ·
  refine Tr.skip ?_
  refine hK2 _ ?_
  refine af fun K3 hK3=>?_
  refine ax ?_
  refine Tr.w hcx [] _ [none] rfl rfl rfl ?_ bv
  refine Tr.w hcx [1000027] _ [] rfl rfl rfl ?_ bv
  refine af fun K4 hK4=>?_
  refine Tr.w hcx [] _ [] rfl rfl rfl ?_ bv
  refine Tr.k [0,2,3,4,5,6,7,8,9] ?_
  refine ax ?_
  refine Tr.bxc 2 0 (sl aC (.own 2) []) _ rfl rfl (bS rfl) rfl ?_
  simp only[List.set_cons_succ,List.set_cons_zero]
  refine bz (α:=Nat) (fun a=>[(0,?v0_2),(2,?v2_2),(3,?v3_2),(4,.val (nI (dq l i (dr l i).2 a).2)),(5,?v5_2),(6,?v6_2),(7,?v7_2),(8,?v8_2),(9,.val (nI a))]) (fun a=>[some [.val (.slice none 0 0)],some [sl vC (.own 1) (dr l i).1],some [sl aC (.own 2) (dq l i (dr l i).2 a).1]]) (fun a=>a≤1+bR l (1+i) 2) (fun a=>1+bR l (1+i) 2 - a) (0) (Nat.zero_le _) ?le_2 ?hh_2 ?bd_2
  case hh_2=>exact rfl
  case le_2=>exact LT
  rintro k hk
  have hx3:=mm l i (dr l i).2 k
  have hx4:=lR l i (dr l i).2 hx2 k
  have hC:=dO l (5+2*i+k) (m:=3) (by decide)
  refine af fun K5 hK5=>?_
  refine Tr.w hcx [] _ [] rfl rfl rfl ?_ bv
  refine bc rfl (fun hc30=>?_) (fun hc30=>?_)
  ·
   refine Tr.skip ?_
   refine hK5 _ ?_
   refine af fun K6 hK6=>?_
   refine ax ?_
   refine Tr.w hcx [] _ [none] rfl rfl rfl ?_ bv
   refine Tr.k [0,2,3,4,5,6,7,8,9,10] ?_
   refine Tr.w hcx [1000047] _ [] rfl rfl rfl ?_ bv
   refine af fun K7 hK7=>?_
   refine Tr.w hcx [] _ [] rfl rfl rfl ?_ bv
   refine Tr.k [0,2,3,4,5,6,7,8,9,10,11,12] ?_
   refine ax ?_
   have hN:jc l i k (dq l i (dr l i).2 k).2=min (1+bR l (5+2*i+k) 3) (8 - (dq l i (dr l i).2 k).2):=rfl
   refine Tr.bxc 3 1 (sl pC (.own 7) []) _ rfl rfl (bS rfl) rfl ?_
   simp only[List.set_cons_succ,List.set_cons_zero]
   refine bz (α:=Nat) (fun a=>[(0,?v0_3),(2,?v2_3),(3,?v3_3),(4,.val (nI ((dq l i (dr l i).2 k).2+a))),(5,?v5_3),(6,?v6_3),(7,?v7_3),(8,?v8_3),(9,?v9_3),(10,?v10_3),(11,?v11_3),(12,.val (nI a))]) (fun a=>[some [.val (.slice none 0 0)],some [sl vC (.own 1) (dr l i).1],some [sl aC (.own 2) (dq l i (dr l i).2 k).1],some [.val (str (fj l (3+i+k))),sl pC (.own 7) (eQ l (dq l i (dr l i).2 k).2 a)]]) (fun a=>a≤jc l i k (dq l i (dr l i).2 k).2) (fun a=>jc l i k (dq l i (dr l i).2 k).2 - a) (0) (Nat.zero_le _) ?le_3 ?hh_3 ?bd_3
   case hh_3=>exact rfl
   case le_3=>exact LT
   rintro j hj
   have hx5:=jW l (dq l i (dr l i).2 k).2 j
   obtain ⟨n,hn⟩:∃n,(dq l i (dr l i).2 k).2=n:=⟨_,rfl⟩
   refine af fun K8 hK8=>?_
   by_cases c4:j< 1+bR l (5+2*i+k) 3
   ·
    by_cases c5: (dq l i (dr l i).2 k).2+j< 8
    ·
     skip
     refine Tr.w hcx [] [some 48,some 49,some 50,some 51,some 52,some 53,some 54] [] rfl rfl rfl ?_ bv
     refine bh rfl ?_
     refine Tr.skip ?_
     refine hK8 _ ?_
     refine Tr.k [0,2,3,4,5,6,7,8,9,10,11,12] ?_
     refine af fun K9 hK9=>?_
     refine ax ?_
     obtain ⟨P,hPP⟩:∃P,fT l (9+4*((dq l i (dr l i).2 k).2+j)) (((0:Nat):Int),(((dq l i (dr l i).2 k).2+j:Nat):Int),((0:Nat):Int)) =P:=⟨_,rfl⟩
     have hPx:=hPP
     refine Tr.w hcx [] _ [none] rfl rfl rfl ?_ bv
     refine Tr.k [0,2,3,4,5,6,7,8,9,10,11,12,13] ?_
     refine af fun K10 hK10=>?_
     by_cases c1:P.2.1= ((1:Nat):Int)
     ·
      have c1o:=c1
      replace c1:=eq_true c1
      by_cases c2:j=0
      ·
       have c2o:=c2
       replace c2:=eq_true c2
       refine Tr.w hcx [] [some 64,some 65,some 66,some 67,some 68,some 69,some 70,some 71,some 72,some 73,some 74,some 75,some 76,some 77,some 78,some 79,some 80,some 81] [] rfl rfl rfl ?_ bv
       refine Tr.k [0,2,3,4,5,6,7,8,9,10,11,12,13,81] ?_
       refine bh rfl ?_
       refine Tr.v hcx [] _ [] rfl rfl rfl ?_ bv
       refine hK10 _ ?_
       refine Tr.w hcx [84] _ [] rfl rfl rfl ?_ bv
       refine Tr.v hcx [1000090] _ [] rfl rfl rfl ?_ bv
       refine hK9 _ ?_
       refine Tr.k [0,2,3,4,5,6,7,8,9,10,11,12] ?_
       refine Tr.k [0,2,3,4,5,6,7,8,9,10,11,12] ?_
       refine ah hcx [0,1,2,3] ?_
       refine Tr.v hcx [1000056] _ [] rfl rfl rfl ?_ bv
       exact ⟨j+1,⟨(by omega),O1⟩,LT,by simp only[eQ,hPP];rw[v9 c1o (by first|exact .inl c2o|exact .inr c3o)] <;>rfl⟩
      have c2o:=c2
      replace c2:=eq_false c2
      by_cases c3: (gt (eQ l (dq l i (dr l i).2 k).2 j) (j - 1)).2.1= ((2:Nat):Int)
      ·
       have c3o:=c3
       replace c3:=eq_true c3
       refine Tr.w hcx [] [some 64,some 65,some 66,some 67,some 68,some 69,some 70,some 71,some 72,some 73,some 74,some 75,some 76,some 77,some 78,some 79,some 80,some 81] [] rfl rfl rfl ?_ bv
       refine Tr.k [0,2,3,4,5,6,7,8,9,10,11,12,13,81] ?_
       refine bh rfl ?_
       refine Tr.v hcx [] _ [] rfl rfl rfl ?_ bv
       refine hK10 _ ?_
       refine Tr.w hcx [84] _ [] rfl rfl rfl ?_ bv
       refine Tr.v hcx [1000090] _ [] rfl rfl rfl ?_ bv
       refine hK9 _ ?_
       refine Tr.k [0,2,3,4,5,6,7,8,9,10,11,12] ?_
       refine Tr.k [0,2,3,4,5,6,7,8,9,10,11,12] ?_
       refine ah hcx [0,1,2,3] ?_
       refine Tr.v hcx [1000056] _ [] rfl rfl rfl ?_ bv
       exact ⟨j+1,⟨(by omega),O1⟩,LT,by simp only[eQ,hPP];rw[v9 c1o (by first|exact .inl c2o|exact .inr c3o)] <;>rfl⟩
      have c3o:=c3
      replace c3:=eq_false c3
      refine Tr.w hcx [] [some 64,some 65,some 66,some 67,some 68,some 69,some 70,some 71,some 72,some 73,some 74,some 75,some 76,some 77,some 78,some 79,some 80,some 81] [] rfl rfl rfl ?_ bv
      refine Tr.k [0,2,3,4,5,6,7,8,9,10,11,12,13,81] ?_
      refine au rfl ?_
      refine Tr.skip ?_
      refine hK10 _ ?_
      refine Tr.w hcx [84] _ [] rfl rfl rfl ?_ bv
      refine Tr.v hcx [1000090] _ [] rfl rfl rfl ?_ bv
      refine hK9 _ ?_
      refine Tr.k [0,2,3,4,5,6,7,8,9,10,11,12] ?_
      refine ah hcx [0,1,2,3] ?_
      refine Tr.v hcx [1000056] _ [] rfl rfl rfl ?_ bv
      exact ⟨j+1,⟨(by omega),O1⟩,LT,by simp only[eQ,hPP];rw[wa (p:=P) (j:=j) (by rintro ⟨q1,q2⟩;first|exact c1o q1|exact q2.elim c2o c3o)] <;>rfl⟩
     have c1o:=c1
     replace c1:=eq_false c1
     refine Tr.w hcx [] [some 64,some 65,some 66,some 67,some 68,some 69,some 70,some 71,some 72,some 73,some 74,some 75,some 76,some 77,some 78,some 79,some 80,some 81] [] rfl rfl rfl ?_ bv
     refine Tr.k [0,2,3,4,5,6,7,8,9,10,11,12,13,81] ?_
     refine au rfl ?_
     refine Tr.skip ?_
     refine hK10 _ ?_
     refine Tr.w hcx [84] _ [] rfl rfl rfl ?_ bv
     refine Tr.v hcx [1000090] _ [] rfl rfl rfl ?_ bv
     refine hK9 _ ?_
     refine Tr.k [0,2,3,4,5,6,7,8,9,10,11,12] ?_
     refine ah hcx [0,1,2,3] ?_
     refine Tr.v hcx [1000056] _ [] rfl rfl rfl ?_ bv
     exact ⟨j+1,⟨(by omega),O1⟩,LT,by simp only[eQ,hPP];rw[wa (p:=P) (j:=j) (by rintro ⟨q1,q2⟩;first|exact c1o q1|exact q2.elim c2o c3o)] <;>rfl⟩
    skip
    refine Tr.w hcx [] [some 48,some 49,some 50,some 51,some 52,some 53,some 54] [] rfl rfl rfl ?_ bv
    refine au rfl ?_
    refine Tr.exit ?_
    refine hK7 _ ?_
    obtain rfl:j=jc l i k (dq l i (dr l i).2 k).2:=by omega
    refine Tr.v hcx [92] _ [] rfl rfl rfl ?_ bv
    refine hK6 _ ?_
    refine Tr.k [0,2,3,4,5,6,7,8,9] ?_
    refine Tr.k [0,2,3,4,5,6,7,8,9] ?_
    refine ah hcx [0,1,2] ?_
    refine Tr.v hcx [1000032] _ [] rfl rfl rfl ?_ bv
    exact ⟨k+1,⟨(by omega),O1⟩,LT,rfl⟩
   have c5:=True.intro
   refine Tr.w hcx [] [some 48,some 49,some 50,some 51,some 52,some 53,some 54] [] rfl rfl rfl ?_ bv
   refine au rfl ?_
   refine Tr.exit ?_
   refine hK7 _ ?_
   obtain rfl:j=jc l i k (dq l i (dr l i).2 k).2:=by omega
   refine Tr.v hcx [92] _ [] rfl rfl rfl ?_ bv
   refine hK6 _ ?_
   refine Tr.k [0,2,3,4,5,6,7,8,9] ?_
   refine Tr.k [0,2,3,4,5,6,7,8,9] ?_
   refine ah hcx [0,1,2] ?_
   refine Tr.v hcx [1000032] _ [] rfl rfl rfl ?_ bv
   exact ⟨k+1,⟨(by omega),O1⟩,LT,rfl⟩
  refine Tr.exit ?_
  refine hK4 _ ?_
  obtain rfl:k=1+bR l (1+i) 2:=by omega
  refine Tr.v hcx [98] _ [] rfl rfl rfl ?_ bv
  refine hK3 _ ?_
  refine Tr.k [0,2,3,4,5,6] ?_
  refine ah hcx [0,1] ?_
  refine Tr.v hcx [1000022] _ [] rfl rfl rfl ?_ bv
  exact ⟨i+1,⟨(by omega),O1⟩,LT,rfl⟩
 refine Tr.exit ?_
 refine hK1 _ ?_
 obtain rfl:i=1+bR l 0 4 / 3:=by omega
 refine Tr.w hcx [] _ [] rfl rfl rfl ?_ bv
 exact Tr.ret Lw
end Go.Sx
namespace Go.Sx
open Go.RowKit Go.Proofs
set_option maxRecDepth 100000
set_option maxHeartbeats 8000000
def gO (x:ID):Bool:=decide (0≤x.1∧x.1< 6∧0≤x.2.1∧x.2.1≤63∧0≤x.2.2∧x.2.2< 1024)
def lU (x:ID):Bool:=decide (x= (-1,0,0)) ||gO x
def cI (p:aN):Bool:=gO p.1 && decide (0≤p.2.1∧p.2.1< 4∧0≤p.2.2.1∧p.2.2.1< 4) && decide (dN p.2.2.2.1=0) && decide ((cH p.2.2.2.1).length=p.2.2.2.2.length) && p.2.2.2.2.all lU
def jz (s:List UInt8):Bool:=decide (dN s=0) && decide ((cH s).length=0)
theorem jX {α:Type}[Inhabited α]{l:List α}{p:α→Bool}(h:∀j,j< l.length→p (gt l j) =true):l.all p=true:=by
 rw[List.all_eq_true]
 intro x hx
 obtain ⟨j,hj,rfl⟩:=List.getElem_of_mem hx
 have:=h j hj
 simpa[gt,List.getD,List.getElem?_eq_getElem hj] using this
theorem iL {α:Type}[Inhabited α]{l:List α}{p:α→Bool}{j:Nat}(hj:j< l.length)(h:p (gt l j) =false):l.all p=false:=by
 rw[List.all_eq_false]
 exact ⟨_,List.getElem_mem hj,by simpa[gt,List.getD,List.getElem?_eq_getElem hj] using h⟩
theorem qL (s:List UInt8): (cH s).length≤s.length:=Nat.le_trans (EF 3 (d9 s)) (kE s)
theorem Lx {p:aN}(h:gO p.1=false):cI p=false:=by unfold cI;rw[h];rfl
theorem oQ {p:aN}(h:¬ (0≤p.2.1∧p.2.1< 4∧0≤p.2.2.1∧p.2.2.1< 4)):cI p=false:=by unfold cI;rw[decide_eq_false h];simp
theorem Ly {p:aN}(h:¬dN p.2.2.2.1=0):cI p=false:=by unfold cI;rw[decide_eq_false h];simp
theorem Lz {p:aN}(h:¬ (cH p.2.2.2.1).length=p.2.2.2.2.length):cI p=false:=by unfold cI;rw[decide_eq_false h];simp
theorem LA {p:aN}(h:p.2.2.2.2.all lU=false):cI p=false:=by unfold cI;rw[h];simp
theorem zq {p:aN}(h0:gO p.1=true)(h:0≤p.2.1∧p.2.1< 4∧0≤p.2.2.1∧p.2.2.1< 4)(h5:dN p.2.2.2.1=0)(h6: (cH p.2.2.2.1).length=p.2.2.2.2.length)(h7:p.2.2.2.2.all lU=true):cI p=true:=by
 unfold cI;rw[h0,decide_eq_true h,decide_eq_true h5,decide_eq_true h6,h7];rfl
theorem DO {x:ID}(h:x= (-1,0,0)):lU x=true:=by unfold lU;rw[decide_eq_true h];rfl
theorem DP {x:ID}(h:gO x=true):lU x=true:=by unfold lU;rw[h];simp
theorem Oa {x:ID}(h:¬x= (-1,0,0))(h2:gO x=false):lU x=false:=by unfold lU;rw[decide_eq_false h,h2];rfl
theorem ii {p:Prop}(e:p:=by intro KZ hZ;simp -implicitDefEqProofs (disch:=first|omega| (simp only[go_sem,lA,lD,lT] <;>omega) |decide) only[go_sem,↓reduceIte,Nat.reduceEqDiff,reduceCtorEq,Nat.reduceLT,Nat.reduceBEq,Nat.reduceAdd,c1,c2,c3,c4,c5,c6,hy];with_reducible exact hZ):p:=e
theorem jd {p:Prop}(e:p:=by simp -implicitDefEqProofs (disch:=first|omega| (simp only[go_sem,lA,lD,lT] <;>omega) |decide) only[go_sem,↓reduceIte,Nat.reduceEqDiff,reduceCtorEq];all_goals (exact congrArg (fun z=>some (C.val (.bool z))) (by unfold gO;first| (symm;rw[decide_eq_true_iff];omega) | (symm;rw[decide_eq_false_iff_not];omega)))):p:=e
theorem P6 {gl:Nat→C}{M:Nat}{pu:Nat→List C→Option C}(hcx:CxOK (aS gl M pu))(x:ID):FC Tryd.prog gl 94 [.agg (iD x)] [] (.val (.bool (gO x))) []:=by
 replace hcx:=hcx.reN (M:=31)
 refine cf (cx:=aS gl 31 pu) (rs:=[.tmp 2]) rfl Tryd.func94 rfl rfl rfl (by simp only[List.length_cons,List.length_nil];decide) (by simp only[go_sem]) ?_
 simp only[dm,go_sem]
 have c1:=True.intro
 have c2:=True.intro
 have c3:=True.intro
 have c4:=True.intro
 have c5:=True.intro
 have c6:=True.intro
 have hy:=True.intro
 refine Tr.w hcx [] _ [none] rfl rfl rfl ?_ ii
 refine Tr.k [1] ?_
 by_cases c1: ((0:Nat):Int)≤x.1
 ·
  have c1o:=c1
  replace c1:=eq_true c1
  by_cases c2:x.1< ((6:Nat):Int)
  ·
   have c2o:=c2
   replace c2:=eq_true c2
   by_cases c3: ((0:Nat):Int)≤x.2.1
   ·
    have c3o:=c3
    replace c3:=eq_true c3
    by_cases c4:x.2.1≤((63:Nat):Int)
    ·
     have c4o:=c4
     replace c4:=eq_true c4
     by_cases c5: ((0:Nat):Int)≤x.2.2
     ·
      have c5o:=c5
      replace c5:=eq_true c5
      by_cases c6:x.2.2< ((1024:Nat):Int)
      ·
       have c6o:=c6
       replace c6:=eq_true c6
       skip
       refine Tr.w hcx [1000030] [some 3,some 4,some 5,some 6,some 7,some 8,some 9,some 10,some 11,some 12,some 13,some 14,some 15,some 16,some 17,some 18,some 19,some 20,some 21,some 22,some 23,some 24,some 25,some 26,some 27,some 28,some 29,some 30,some 2] [] rfl rfl rfl ?_ ii
       refine Tr.k [2] ?_
       exact Tr.ret jd
      have c6o:=c6
      replace c6:=eq_false c6
      skip
      refine Tr.w hcx [1000030] [some 3,some 4,some 5,some 6,some 7,some 8,some 9,some 10,some 11,some 12,some 13,some 14,some 15,some 16,some 17,some 18,some 19,some 20,some 21,some 22,some 23,some 24,some 25,some 26,some 27,some 28,some 29,some 30,some 2] [] rfl rfl rfl ?_ ii
      refine Tr.k [2] ?_
      exact Tr.ret jd
     have c5o:=c5
     replace c5:=eq_false c5
     have c6:=True.intro
     refine Tr.w hcx [1000030] [some 3,some 4,some 5,some 6,some 7,some 8,some 9,some 10,some 11,some 12,some 13,some 14,some 15,some 16,some 17,some 18,some 19,some 20,some 21,some 22,some 23,some 24,some 25,some 26,some 27,some 28,some 29,some 30,some 2] [] rfl rfl rfl ?_ ii
     refine Tr.k [2] ?_
     exact Tr.ret jd
    have c4o:=c4
    replace c4:=eq_false c4
    have c5:=True.intro
    have c6:=True.intro
    refine Tr.w hcx [1000030] [some 3,some 4,some 5,some 6,some 7,some 8,some 9,some 10,some 11,some 12,some 13,some 14,some 15,some 16,some 17,some 18,some 19,some 20,some 21,some 22,some 23,some 24,some 25,some 26,some 27,some 28,some 29,some 30,some 2] [] rfl rfl rfl ?_ ii
    refine Tr.k [2] ?_
    exact Tr.ret jd
   have c3o:=c3
   replace c3:=eq_false c3
   have c4:=True.intro
   have c5:=True.intro
   have c6:=True.intro
   refine Tr.w hcx [1000030] [some 3,some 4,some 5,some 6,some 7,some 8,some 9,some 10,some 11,some 12,some 13,some 14,some 15,some 16,some 17,some 18,some 19,some 20,some 21,some 22,some 23,some 24,some 25,some 26,some 27,some 28,some 29,some 30,some 2] [] rfl rfl rfl ?_ ii
   refine Tr.k [2] ?_
   exact Tr.ret jd
  have c2o:=c2
  replace c2:=eq_false c2
  have c3:=True.intro
  have c4:=True.intro
  have c5:=True.intro
  have c6:=True.intro
  refine Tr.w hcx [1000030] [some 3,some 4,some 5,some 6,some 7,some 8,some 9,some 10,some 11,some 12,some 13,some 14,some 15,some 16,some 17,some 18,some 19,some 20,some 21,some 22,some 23,some 24,some 25,some 26,some 27,some 28,some 29,some 30,some 2] [] rfl rfl rfl ?_ ii
  refine Tr.k [2] ?_
  exact Tr.ret jd
 have c1o:=c1
 replace c1:=eq_false c1
 have c2:=True.intro
 have c3:=True.intro
 have c4:=True.intro
 have c5:=True.intro
 have c6:=True.intro
 refine Tr.w hcx [1000030] [some 3,some 4,some 5,some 6,some 7,some 8,some 9,some 10,some 11,some 12,some 13,some 14,some 15,some 16,some 17,some 18,some 19,some 20,some 21,some 22,some 23,some 24,some 25,some 26,some 27,some 28,some 29,some 30,some 2] [] rfl rfl rfl ?_ ii
 refine Tr.k [2] ?_
 exact Tr.ret jd
theorem cQ {p:Prop}(e:p:=by intro KZ hZ;simp -implicitDefEqProofs (disch:=first|omega| (simp only[go_sem,lA,lD,lT,hm] <;>omega) |decide) only[go_sem,↓reduceIte,Nat.reduceEqDiff,reduceCtorEq,Nat.reduceLT,Nat.reduceBEq,Nat.reduceAdd,h94,e15,e16,hg0,o6,a0,a1,a2,a3,a4,a5,a6,b1,b2,hy];with_reducible exact hZ):p:=e
theorem tj {p:Prop}(e:p:=by intro KZ hZ;simp -implicitDefEqProofs (disch:=first|omega| (simp only[go_sem,lA,lD,lT,hm] <;>omega) |decide) only[go_sem,↓reduceIte,Nat.reduceEqDiff,reduceCtorEq,Nat.reduceLT,Nat.reduceBEq,Nat.reduceAdd,h94,e15,e16,hg0,o6,a0,a1,a2,a3,a4,a5,a6,b1,b2,hy];with_reducible refine And.intro ?_ hZ;first|exact rfl|decide):p:=e
theorem gK {p:Prop}(e:p:=by simp -implicitDefEqProofs (disch:=first|omega| (simp only[go_sem,lA,lD,lT,hm] <;>omega) |decide) only[go_sem,↓reduceIte,Nat.reduceEqDiff,reduceCtorEq];all_goals (rw[hR])):p:=e
theorem P7 {gl:Nat→C}{M:Nat}{pu:Nat→List C→Option C}(hcx:CxOK (aS gl M pu))(hg0:gl 0= .kp (iD (-1,0,0)))(h94:∀x:ID,pu 94 [.agg (iD x)] =some (.val (.bool (gO x))))(h15:∀s:List UInt8,s.length≤1000000→pu 15 [.val (str s)] =some (.val (nI (dN s))))(h16:∀s:List UInt8,s.length≤1000000→pu 16 [.val (str s)] =some (sl nC (.own 1) (cH s)))(p:aN)(ht:p.2.2.2.1.length≤1000000)(hr:p.2.2.2.2.length≤1000000):FC Tryd.prog gl 54 [.agg (pC p)] [] (.val (.bool (cI p))) []:=by
 replace hcx:=hcx.reN (M:=61)
 refine cf (cx:=aS gl 61 pu) (rs:=[.tmp 2]) rfl Tryd.func54 rfl rfl rfl (by simp only[List.length_cons,List.length_nil];decide) (by simp only[go_sem]) ?_
 simp only[dm,go_sem]
 have a0:=True.intro
 have a1:=True.intro
 have a2:=True.intro
 have a3:=True.intro
 have a4:=True.intro
 have a5:=True.intro
 have a6:=True.intro
 have b1:=True.intro
 have b2:=True.intro
 have hy:=True.intro
 have e15:=h15 _ ht
 have e16:=h16 _ ht
 have hm:=qL p.2.2.2.1
 refine Tr.w hcx [] _ [none] rfl rfl rfl ?_ cQ
 refine Tr.k [1] ?_
 refine af fun K1 hK1=>?_
 refine ax ?_
 by_cases a0:gO p.1=true
 ·
  skip
  by_cases a1:p.2.1< ((0:Nat):Int)
  ·
   have a1o:=a1
   replace a1:=eq_true a1
   have a2:=True.intro
   have a3:=True.intro
   have a4:=True.intro
   refine Tr.w hcx [1000029] [some 6,some 7,some 8,some 9,some 10,some 11,some 12,some 13,some 14,some 15,some 16,some 17,some 18,some 19,some 20,some 21,some 22,some 23,some 24,some 25,some 26,some 27,some 28,some 29,some 5] [] rfl rfl rfl ?_ cQ
   refine bh rfl ?_
   have hR:=oQ (p:=p) (by omega)
   refine Tr.w hcx [] _ [] rfl rfl rfl ?_ cQ
   refine Tr.k [2] ?_
   exact Tr.ret gK
  have a1o:=a1
  replace a1:=eq_false a1
  by_cases a2: ((4:Nat):Int)≤p.2.1
  ·
   have a2o:=a2
   replace a2:=eq_true a2
   have a3:=True.intro
   have a4:=True.intro
   refine Tr.w hcx [1000029] [some 6,some 7,some 8,some 9,some 10,some 11,some 12,some 13,some 14,some 15,some 16,some 17,some 18,some 19,some 20,some 21,some 22,some 23,some 24,some 25,some 26,some 27,some 28,some 29,some 5] [] rfl rfl rfl ?_ cQ
   refine bh rfl ?_
   have hR:=oQ (p:=p) (by omega)
   refine Tr.w hcx [] _ [] rfl rfl rfl ?_ cQ
   refine Tr.k [2] ?_
   exact Tr.ret gK
  have a2o:=a2
  replace a2:=eq_false a2
  by_cases a3:p.2.2.1< ((0:Nat):Int)
  ·
   have a3o:=a3
   replace a3:=eq_true a3
   have a4:=True.intro
   refine Tr.w hcx [1000029] [some 6,some 7,some 8,some 9,some 10,some 11,some 12,some 13,some 14,some 15,some 16,some 17,some 18,some 19,some 20,some 21,some 22,some 23,some 24,some 25,some 26,some 27,some 28,some 29,some 5] [] rfl rfl rfl ?_ cQ
   refine bh rfl ?_
   have hR:=oQ (p:=p) (by omega)
   refine Tr.w hcx [] _ [] rfl rfl rfl ?_ cQ
   refine Tr.k [2] ?_
   exact Tr.ret gK
  have a3o:=a3
  replace a3:=eq_false a3
  by_cases a4: ((4:Nat):Int)≤p.2.2.1
  ·
   have a4o:=a4
   replace a4:=eq_true a4
   skip
   refine Tr.w hcx [1000029] [some 6,some 7,some 8,some 9,some 10,some 11,some 12,some 13,some 14,some 15,some 16,some 17,some 18,some 19,some 20,some 21,some 22,some 23,some 24,some 25,some 26,some 27,some 28,some 29,some 5] [] rfl rfl rfl ?_ cQ
   refine bh rfl ?_
   have hR:=oQ (p:=p) (by omega)
   refine Tr.w hcx [] _ [] rfl rfl rfl ?_ cQ
   refine Tr.k [2] ?_
   exact Tr.ret gK
  have a4o:=a4
  replace a4:=eq_false a4
  skip
  refine Tr.w hcx [1000029] [some 6,some 7,some 8,some 9,some 10,some 11,some 12,some 13,some 14,some 15,some 16,some 17,some 18,some 19,some 20,some 21,some 22,some 23,some 24,some 25,some 26,some 27,some 28,some 29,some 5] [] rfl rfl rfl ?_ cQ
  refine au rfl ?_
  by_cases a5:dN p.2.2.2.1=0
  ·
   have a5o:=a5
   replace a5:=eq_true a5
   by_cases a6: (cH p.2.2.2.1).length=p.2.2.2.2.length
   ·
    have a6o:=a6
    replace a6:=eq_true a6
    skip
    refine bB hcx aW [1000044] [some 31,some 32,some 33,some 34,some 35,some 36,some 37,some 38,some 39,some 40,some 41,some 42,some 43,some 44,some 30] [] rfl rfl rfl rfl ?_ tj
    refine Tr.k [1,30] ?_
    refine au rfl ?_
    refine Tr.skip ?_
    refine hK1 _ ?_
    refine af fun K2 hK2=>?_
    refine Tr.w hcx [] _ [] rfl rfl rfl ?_ cQ
    refine Tr.k [46,47,48] ?_
    refine ax ?_
    obtain ⟨R,hR⟩:∃R,p.2.2.2.2=R:=⟨_,rfl⟩
    rw[hR]
    rw[hR] at a6o hr
    have h7:=LA (p:=p)
    have hT:=zq (p:=p) a0 (by omega) a5o (by rw[hR];exact a6o)
    rw[hR] at h7 hT
    refine Tr.k [46,47,48] ?_
    refine ah hcx [] ?_
    refine bz (α:=Nat) (fun a=>[(46,?v46_1),(47,?v47_1),(48,.val (nI a))]) (fun a=>[]) (fun a=>a≤R.length∧∀j,j< a→lU (gt R j) =true) (fun a=>R.length - a) (0) ⟨Nat.zero_le _,fun j hj=>absurd hj (Nat.not_lt_zero j)⟩ ?le_1 ?hh_1 ?bd_1
    case hh_1=>exact rfl
    case le_1=>exact LT
    rintro i ⟨hi,hA⟩
    refine Tr.w hcx [] _ [] rfl rfl rfl ?_ cQ
    refine af fun K3 hK3=>?_
    refine bc rfl (fun hc49=>?_) (fun hc49=>?_)
    ·
     refine Tr.skip ?_
     refine hK3 _ ?_
     refine af fun K4 hK4=>?_
     refine ax ?_
     refine Tr.w hcx [] _ [none] rfl rfl rfl ?_ cQ
     by_cases b1:gt R i= (-1,0,0)
     ·
      have b1o:=b1
      replace b1:=eq_true b1
      have b2:=True.intro
      refine Tr.w hcx [] [some 52,some 53,some 54,some 55,some 56,some 57,some 58,some 59] [] rfl rfl rfl ?_ cQ
      refine au rfl ?_
      refine Tr.skip ?_
      refine hK4 _ ?_
      refine Tr.k [46,47,48] ?_
      refine ah hcx [] ?_
      refine Tr.v hcx [] _ [] rfl rfl rfl ?_ cQ
      exact ⟨i+1,⟨⟨by omega,fun j hj=>(Nat.lt_or_eq_of_le (Nat.le_of_lt_succ hj)).elim (hA j) (fun e=>e▸DO b1o)⟩,O1⟩,LT,rfl⟩
     have b1o:=b1
     replace b1:=eq_false b1
     by_cases b2:gO (gt R i) =true
     ·
      skip
      skip
      refine Tr.w hcx [] [some 52,some 53,some 54,some 55,some 56,some 57,some 58,some 59] [] rfl rfl rfl ?_ cQ
      refine au rfl ?_
      refine Tr.skip ?_
      refine hK4 _ ?_
      refine Tr.k [46,47,48] ?_
      refine ah hcx [] ?_
      refine Tr.v hcx [] _ [] rfl rfl rfl ?_ cQ
      exact ⟨i+1,⟨⟨by omega,fun j hj=>(Nat.lt_or_eq_of_le (Nat.le_of_lt_succ hj)).elim (hA j) (fun e=>e▸DP b2)⟩,O1⟩,LT,rfl⟩
     replace b2:=(Bool.not_eq_true _).mp b2
     skip
     refine Tr.w hcx [] [some 52,some 53,some 54,some 55,some 56,some 57,some 58,some 59] [] rfl rfl rfl ?_ cQ
     refine bh rfl ?_
     have hR:=h7 (iL hc49 (Oa b1o b2))
     refine Tr.w hcx [] _ [] rfl rfl rfl ?_ cQ
     exact Tr.ret gK
    refine Tr.exit ?_
    refine hK2 _ ?_
    obtain rfl:i=R.length:=by omega
    have hR:=hT (jX hA)
    refine Tr.w hcx [] _ [] rfl rfl rfl ?_ cQ
    exact Tr.ret gK
   have a6o:=a6
   replace a6:=eq_false a6
   skip
   refine bB hcx aW [1000044] [some 31,some 32,some 33,some 34,some 35,some 36,some 37,some 38,some 39,some 40,some 41,some 42,some 43,some 44,some 30] [] rfl rfl rfl rfl ?_ tj
   refine Tr.k [1,30] ?_
   refine bh rfl ?_
   have hR:=Lz a6o
   refine Tr.w hcx [] _ [] rfl rfl rfl ?_ cQ
   exact Tr.ret gK
  have a5o:=a5
  replace a5:=eq_false a5
  have a6:=True.intro
  refine bB hcx aW [1000044] [some 31,some 32,some 33,some 34,some 35,some 36,some 37,some 38,some 39,some 40,some 41,some 42,some 43,some 44,some 30] [] rfl rfl rfl rfl ?_ tj
  refine Tr.k [1,30] ?_
  refine bh rfl ?_
  have hR:=Ly a5o
  refine Tr.w hcx [] _ [] rfl rfl rfl ?_ cQ
  exact Tr.ret gK
 replace a0:=(Bool.not_eq_true _).mp a0
 have a1:=True.intro
 have a2:=True.intro
 have a3:=True.intro
 have a4:=True.intro
 refine Tr.w hcx [1000029] [some 6,some 7,some 8,some 9,some 10,some 11,some 12,some 13,some 14,some 15,some 16,some 17,some 18,some 19,some 20,some 21,some 22,some 23,some 24,some 25,some 26,some 27,some 28,some 29,some 5] [] rfl rfl rfl ?_ cQ
 refine bh rfl ?_
 have hR:=Lx a0
 refine Tr.w hcx [] _ [] rfl rfl rfl ?_ cQ
 refine Tr.k [2] ?_
 exact Tr.ret gK
end Go.Sx
namespace Go.Sx
open Go.RowKit Go.Proofs
set_option maxRecDepth 100000
set_option maxHeartbeats 8000000
def du (w:aj):Bool:=decide (8< w.length) ||w.any (fun V=>decide (64< V.length)) ||decide (1024< (cB w).length)
theorem CO {w:aj}(h:8< w.length):du w=true:=by unfold du;rw[decide_eq_true h];rfl
theorem LB {α:Type}[Inhabited α]{l:List α}{p:α→Bool}{j:Nat}(hj:j< l.length)(h:p (gt l j) =true):l.any p=true:=by
 rw[List.any_eq_true]
 exact ⟨_,List.getElem_mem hj,by simpa[gt,List.getD,List.getElem?_eq_getElem hj] using h⟩
theorem G8 {α:Type}[Inhabited α]{l:List α}{p:α→Bool}(h:∀j,j< l.length→p (gt l j) =false):l.any p=false:=by
 rw[List.any_eq_false]
 intro x hx
 obtain ⟨j,hj,rfl⟩:=List.getElem_of_mem hx
 have:=h j hj
 simpa[gt,List.getD,List.getElem?_eq_getElem hj] using this
theorem CP {w:aj}{j:Nat}(hj:j< w.length)(h:64< (gt w j).length):du w=true:=by unfold du;rw[LB hj (decide_eq_true h)];simp
theorem CQ {w:aj}(h:¬8< w.length)(h2:∀j,j< w.length→¬64< (gt w j).length):du w=decide (1024< (cB w).length):=by
 have h3:w.any (fun V=>decide (64< V.length)) =false:=G8 fun j hj=>decide_eq_false (h2 j hj)
 unfold du;rw[decide_eq_false h,h3];rfl
def gi (w:aj):Bool:=w.all fun V=>V.all fun A=>jz A.1
theorem zr {s:List UInt8}(h:dN s=0)(h2: (cH s).length=0):jz s=true:=by unfold jz;rw[decide_eq_true h,decide_eq_true h2];rfl
theorem zt {s:List UInt8}(h:¬ (dN s=0∧(cH s).length=0)):jz s=false:=by
 unfold jz
 by_cases h1:dN s=0
 . rw[decide_eq_false (fun e=>h ⟨h1,e⟩)];simp
 . rw[decide_eq_false h1];rfl
theorem CR (a:Nat):lf (cl nC (List.replicate 3 0)) [(0,.val (nI a))] =some (vp (.agg [.val (nI a),.val (nI 0),.val (nI 0)])):=rfl
theorem CS (a b c:Nat):lf (cl nC (List.replicate 3 0)) [(0,.val (nI a)),(1,.val (nI b)),(2,.val (nI c))] =some (vp (.agg [.val (nI a),.val (nI b),.val (nI c)])):=rfl
attribute [go_sem high] CR CS
def nA (w:aj)(v:Nat):Nat:=((w.take v).flatten).length
theorem LC (w:aj)(v:Nat)(h:v< w.length):nA w (v+1) =nA w v+(gt w v).length:=by
 unfold nA;rw[←eC w v h,List.flatten_append,List.length_append];simp
theorem DQ (w:aj)(v:Nat):nA w v≤nA w w.length:=by
 unfold nA
 rw[List.take_length]
 conv=>rhs;rw[←List.take_append_drop v w]
 rw[List.flatten_append,List.length_append];omega
theorem ef {p:Prop}(e:p:=by intro KZ hZ;simp -implicitDefEqProofs (disch:=first|omega| (simp only[go_sem,lA,lD,lT,hVl] <;>omega) |decide) only[go_sem,↓reduceIte,Nat.reduceEqDiff,reduceCtorEq,Nat.reduceLT,Nat.reduceBEq,Nat.reduceAdd,hVV,hy];with_reducible exact hZ):p:=e
theorem tk {p:Prop}(e:p:=by simp -implicitDefEqProofs (disch:=first|omega| (simp only[go_sem,lA,lD,lT,hVl] <;>omega) |decide) only[go_sem,↓reduceIte,Nat.reduceEqDiff,reduceCtorEq];all_goals (rw[hR])):p:=e
theorem P8 {gl:Nat→C}{M:Nat}{pu:Nat→List C→Option C}(hcx:CxOK (aS gl M pu))(w:aj)(hw:WS w):FC Tryd.prog gl 52 [.agg [sl vC .no w]] [] (.val (.bool (du w))) []:=by
 replace hcx:=hcx.reN (M:=39)
 refine cf (cx:=aS gl 39 pu) (rs:=[.tmp 2]) rfl Tryd.func52 rfl rfl rfl (by simp only[List.length_cons,List.length_nil];decide) (by simp only[go_sem]) ?_
 simp only[dm,go_sem]
 have hy:=True.intro
 have hw1:=hw.1.1
 have hal:=e7 w
 have hw2:=hw.2.1
 have hVV:=True.intro
 have hVl:=True.intro
 refine Tr.w hcx [] _ [none] rfl rfl rfl ?_ ef
 refine af fun K1 hK1=>?_
 refine Tr.w hcx [] _ [] rfl rfl rfl ?_ ef
 refine bc rfl (fun hc11=>?_) (fun hc11=>?_)
 ·
  have hR:=CO hc11
  refine Tr.w hcx [] _ [] rfl rfl rfl ?_ ef
  exact Tr.ret tk
 refine Tr.skip ?_
 refine hK1 _ ?_
 refine Tr.w hcx [] _ [] rfl rfl rfl ?_ ef
 refine af fun K2 hK2=>?_
 refine Tr.w hcx [] _ [] rfl rfl rfl ?_ ef
 refine Tr.k [3,13,14,15] ?_
 refine ax ?_
 refine Tr.k [3,13,14,15] ?_
 refine ah hcx [] ?_
 refine bz (α:=Nat) (fun a=>[(3,.val (nI (pV w a).length)),(13,?v13_1),(14,?v14_1),(15,.val (nI a))]) (fun a=>[]) (fun a=>a≤w.length∧∀j,j< a→¬64< (gt w j).length) (fun a=>w.length - a) (0) ⟨Nat.zero_le _,fun j hj=>absurd hj (Nat.not_lt_zero j)⟩ ?le_1 ?hh_1 ?bd_1
 case hh_1=>exact rfl
 case le_1=>exact LT
 rintro v ⟨hv,hA⟩
 have hp:=rh w v
 refine Tr.w hcx [] _ [] rfl rfl rfl ?_ ef
 refine af fun K3 hK3=>?_
 refine bc rfl (fun hc16=>?_) (fun hc16=>?_)
 ·
  obtain ⟨V,hV⟩:∃V,gt w v=V:=⟨_,rfl⟩
  have hVV:=hV
  have hVl:=hw.1.2.1 v hc16
  have hAl:=hw.1.2.2 v
  have hpS:=pL w v hc16
  rw[hV] at hVl hAl hpS
  have hpS:=congrArg List.length hpS
  rw[List.length_append] at hpS
  refine Tr.skip ?_
  refine hK3 _ ?_
  refine af fun K4 hK4=>?_
  refine ax ?_
  refine Tr.w hcx [] _ [none] rfl rfl rfl ?_ ef
  refine af fun K5 hK5=>?_
  refine Tr.w hcx [] _ [] rfl rfl rfl ?_ ef
  refine bc rfl (fun hc22=>?_) (fun hc22=>?_)
  ·
   have hR:=CP hc16 (by rw[hV];exact hc22)
   refine Tr.w hcx [] _ [] rfl rfl rfl ?_ ef
   exact Tr.ret tk
  refine Tr.skip ?_
  refine hK5 _ ?_
  refine Tr.w hcx [] _ [] rfl rfl rfl ?_ ef
  refine Tr.k [3,13,14,15,24,25,26] ?_
  refine ax ?_
  refine Tr.k [3,13,14,15,24,25,26] ?_
  refine ah hcx [] ?_
  refine bz (α:=Nat) (fun a=>[(3,.val (nI ((pV w v).length+(pA V a).length))),(13,?v13_2),(14,?v14_2),(15,?v15_2),(24,?v24_2),(25,?v25_2),(26,.val (nI a))]) (fun a=>[]) (fun a=>a≤V.length) (fun a=>V.length - a) (0) (Nat.zero_le _) ?le_2 ?hh_2 ?bd_2
  case hh_2=>exact rfl
  case le_2=>(simp only[dz,cU,↓cV,↓reduceIte,Nat.reduceEqDiff,cC,db,cE,dc,dg,and_true,true_and];all_goals (repeat' first|exact CLe.refl _|exact True.intro| (refine bS ?_;first|rfl| (simp only[List.take_zero];done)) |exact dE (by omega) |exact dA (by omega) |exact dB (by omega) |exact dD (by omega) |with_reducible apply And.intro));all_goals first|exact CLe.refl _|exact dE (by show _=_+(pA V 0).length;rfl)
  rintro k hk
  have hp2:=oO w v (k+1) hc16
  rw[hV] at hp2
  refine Tr.w hcx [] _ [] rfl rfl rfl ?_ ef
  refine af fun K6 hK6=>?_
  refine bc rfl (fun hc27=>?_) (fun hc27=>?_)
  ·
   have hAk:=hAl k hc16 hc27
   have hpA:=congrArg List.length (lO V k hc27)
   rw[List.length_append] at hpA
   refine Tr.skip ?_
   refine hK6 _ ?_
   refine af fun K7 hK7=>?_
   refine ax ?_
   refine Tr.w hcx [] _ [none] rfl rfl rfl ?_ ef
   refine Tr.v hcx [1000034] _ [] rfl rfl rfl ?_ ef
   refine hK7 _ ?_
   refine Tr.k [3,13,14,15,24,25,26] ?_
   refine ah hcx [] ?_
   refine Tr.v hcx [] _ [] rfl rfl rfl ?_ ef
   refine ⟨k+1,⟨(by omega),O1⟩,?_,rfl⟩
   (simp only[dz,cU,↓cV,↓reduceIte,Nat.reduceEqDiff,cC,db,cE,dc,dg,and_true,true_and];all_goals (repeat' first|exact CLe.refl _|exact True.intro| (refine bS ?_;first|rfl| (simp only[List.take_zero];done)) |exact dE (by omega) |exact dA (by omega) |exact dB (by omega) |exact dD (by omega) |with_reducible apply And.intro))
   all_goals first|exact dE (by omega) |exact CLe.refl _
  refine Tr.exit ?_
  refine hK4 _ ?_
  obtain rfl:k=V.length:=by omega
  refine Tr.v hcx [] _ [] rfl rfl rfl ?_ ef
  refine ⟨v+1,⟨⟨by omega,fun j hj=>(Nat.lt_or_eq_of_le (Nat.le_of_lt_succ hj)).elim (hA j) (fun e=>by subst e;rw[hV];exact hc22)⟩,O1⟩,?_,rfl⟩
  (simp only[dz,cU,↓cV,↓reduceIte,Nat.reduceEqDiff,cC,db,cE,dc,dg,and_true,true_and];all_goals (repeat' first|exact CLe.refl _|exact True.intro| (refine bS ?_;first|rfl| (simp only[List.take_zero];done)) |exact dE (by omega) |exact dA (by omega) |exact dB (by omega) |exact dD (by omega) |with_reducible apply And.intro))
  all_goals first|exact dE (by omega) |exact CLe.refl _
 refine Tr.exit ?_
 refine hK2 _ ?_
 obtain rfl:v=w.length:=by omega
 have hR:=CQ hc11 hA
 rw[←lP]
 refine Tr.w hcx [1000038] _ [] rfl rfl rfl ?_ ef
 exact Tr.ret tk
theorem eA {p:Prop}(e:p:=by intro KZ hZ;simp -implicitDefEqProofs (disch:=first|omega| (simp only[go_sem,lA,lD,lT,hVl,hm] <;>omega) |decide) only[go_sem,↓reduceIte,Nat.reduceEqDiff,reduceCtorEq,Nat.reduceLT,Nat.reduceBEq,Nat.reduceAdd,hVV,e15,e16,b1,b2,hy];with_reducible exact hZ):p:=e
theorem tl {p:Prop}(e:p:=by simp -implicitDefEqProofs (disch:=first|omega| (simp only[go_sem,lA,lD,lT,hVl,hm] <;>omega) |decide) only[go_sem,↓reduceIte,Nat.reduceEqDiff,reduceCtorEq];all_goals (rw[hR])):p:=e
theorem P9 {gl:Nat→C}{M:Nat}{pu:Nat→List C→Option C}(hcx:CxOK (aS gl M pu))(h15:∀s:List UInt8,s.length≤1000000→pu 15 [.val (str s)] =some (.val (nI (dN s))))(h16:∀s:List UInt8,s.length≤1000000→pu 16 [.val (str s)] =some (sl nC (.own 1) (cH s)))(w:aj)(hw:WB w)(ht:∀v a,v< w.length→a< (gt w v).length→(gt (gt w v) a).1.length≤1000000):FC Tryd.prog gl 55 [.agg [sl vC .no w]] [] (.val (.bool (gi w))) []:=by
 replace hcx:=hcx.reN (M:=34)
 refine cf (cx:=aS gl 34 pu) (rs:=[.tmp 2]) rfl Tryd.func55 rfl rfl rfl (by simp only[List.length_cons,List.length_nil];decide) (by simp only[go_sem]) ?_
 simp only[dm,go_sem]
 have b1:=True.intro
 have b2:=True.intro
 have hy:=True.intro
 have hw1:=hw.1
 have hVV:=True.intro
 have hVl:=True.intro
 have hm:=True.intro
 have e15:=True.intro
 have e16:=True.intro
 refine Tr.w hcx [] _ [none] rfl rfl rfl ?_ eA
 refine af fun K1 hK1=>?_
 refine Tr.w hcx [] _ [] rfl rfl rfl ?_ eA
 refine Tr.k [8,9,10] ?_
 refine ax ?_
 refine Tr.k [8,9,10] ?_
 refine ah hcx [] ?_
 refine bz (α:=Nat) (fun a=>[(8,?v8_1),(9,?v9_1),(10,.val (nI a))]) (fun a=>[]) (fun a=>a≤w.length∧∀j,j< a→(gt w j).all (fun A=>jz A.1) =true) (fun a=>w.length - a) (0) ⟨Nat.zero_le _,fun j hj=>absurd hj (Nat.not_lt_zero j)⟩ ?le_1 ?hh_1 ?bd_1
 case hh_1=>exact rfl
 case le_1=>exact LT
 rintro v ⟨hv,hA⟩
 refine Tr.w hcx [] _ [] rfl rfl rfl ?_ eA
 refine af fun K2 hK2=>?_
 refine bc rfl (fun hc11=>?_) (fun hc11=>?_)
 ·
  obtain ⟨V,hV⟩:∃V,gt w v=V:=⟨_,rfl⟩
  have hVV:=hV
  have hVl:=hw.2.1 v hc11
  have htv:=ht v
  rw[hV] at hVl htv
  refine Tr.skip ?_
  refine hK2 _ ?_
  refine af fun K3 hK3=>?_
  refine ax ?_
  refine Tr.w hcx [] _ [none] rfl rfl rfl ?_ eA
  refine Tr.w hcx [] _ [] rfl rfl rfl ?_ eA
  refine Tr.k [8,9,10,15,16,17] ?_
  refine ax ?_
  refine Tr.k [8,9,10,15,16,17] ?_
  refine ah hcx [] ?_
  refine bz (α:=Nat) (fun a=>[(8,?v8_2),(9,?v9_2),(10,?v10_2),(15,?v15_2),(16,?v16_2),(17,.val (nI a))]) (fun a=>[]) (fun a=>a≤V.length∧∀j,j< a→jz (gt V j).1=true) (fun a=>V.length - a) (0) ⟨Nat.zero_le _,fun j hj=>absurd hj (Nat.not_lt_zero j)⟩ ?le_2 ?hh_2 ?bd_2
  case hh_2=>exact rfl
  case le_2=>exact LT
  rintro k ⟨hk,hB⟩
  refine Tr.w hcx [] _ [] rfl rfl rfl ?_ eA
  refine af fun K4 hK4=>?_
  refine bc rfl (fun hc18=>?_) (fun hc18=>?_)
  ·
   have htk:=htv k hc11 hc18
   have e15:=h15 _ htk
   have e16:=h16 _ htk
   have hm:=qL (gt V k).1
   refine Tr.skip ?_
   refine hK4 _ ?_
   refine af fun K5 hK5=>?_
   refine ax ?_
   refine Tr.w hcx [] _ [none] rfl rfl rfl ?_ eA
   by_cases b1:dN (gt V k).1=0
   ·
    have b1o:=b1
    replace b1:=eq_true b1
    by_cases b2: (cH (gt V k).1).length=0
    ·
     have b2o:=b2
     replace b2:=b2
     skip
     refine Tr.w hcx [] [some 21,some 22,some 23,some 24,some 25,some 26,some 27,some 28,some 29,some 30,some 31] [] rfl rfl rfl ?_ eA
     refine au rfl ?_
     refine Tr.skip ?_
     refine hK5 _ ?_
     refine Tr.k [8,9,10,15,16,17] ?_
     refine ah hcx [] ?_
     refine Tr.v hcx [] _ [] rfl rfl rfl ?_ eA
     exact ⟨k+1,⟨⟨by omega,fun j hj=>(Nat.lt_or_eq_of_le (Nat.le_of_lt_succ hj)).elim (hB j) (fun e=>by subst e;exact zr b1o b2o)⟩,O1⟩,LT,rfl⟩
    have b2o:=b2
    have b2:0< (cH (gt V k).1).length:=by omega
    skip
    refine Tr.w hcx [] [some 21,some 22,some 23,some 24,some 25,some 26,some 27,some 28,some 29,some 30,some 31] [] rfl rfl rfl ?_ eA
    refine bh rfl ?_
    have hR:gi w=false:=iL hc11 (by rw[hV];exact iL hc18 (zt (fun h=>b2o h.2)))
    refine Tr.w hcx [] _ [] rfl rfl rfl ?_ eA
    exact Tr.ret tl
   have b1o:=b1
   replace b1:=eq_false b1
   have b2:=True.intro
   refine Tr.w hcx [] [some 21,some 22,some 23,some 24,some 25,some 26,some 27,some 28,some 29,some 30,some 31] [] rfl rfl rfl ?_ eA
   refine bh rfl ?_
   have hR:gi w=false:=iL hc11 (by rw[hV];exact iL hc18 (zt (fun h=>b1o h.1)))
   refine Tr.w hcx [] _ [] rfl rfl rfl ?_ eA
   exact Tr.ret tl
  refine Tr.exit ?_
  refine hK3 _ ?_
  obtain rfl:k=V.length:=by omega
  refine Tr.v hcx [] _ [] rfl rfl rfl ?_ eA
  exact ⟨v+1,⟨⟨by omega,fun j hj=>(Nat.lt_or_eq_of_le (Nat.le_of_lt_succ hj)).elim (hA j) (fun e=>by subst e;rw[hV];exact jX hB)⟩,O1⟩,LT,rfl⟩
 refine Tr.exit ?_
 refine hK1 _ ?_
 obtain rfl:v=w.length:=by omega
 have hR:gi w=true:=jX hA
 refine Tr.w hcx [] _ [] rfl rfl rfl ?_ eA
 exact Tr.ret tl
theorem eZ {p:Prop}(e:p:=by intro KZ hZ;simp -implicitDefEqProofs (disch:=first|omega| (simp only[go_sem,lA,lD,lT,hVl] <;>omega) |decide) only[go_sem,↓reduceIte,Nat.reduceEqDiff,reduceCtorEq,Nat.reduceLT,Nat.reduceBEq,Nat.reduceAdd,hVV,hy];with_reducible exact hZ):p:=e
theorem LD {p:Prop}(e:p:=by simp -implicitDefEqProofs (disch:=first|omega| (simp only[go_sem,lA,lD,lT,hVl] <;>omega) |decide) only[go_sem,↓reduceIte,Nat.reduceEqDiff,reduceCtorEq];all_goals (rfl)):p:=e
theorem Qa {gl:Nat→C}{M:Nat}{pu:Nat→List C→Option C}(hcx:CxOK (aS gl M pu))(w:aj)(hw:WS w)(hn:nA w w.length≤1000000):FC Tryd.prog gl 25 [.agg [sl vC .no w]] [] (.agg [.val (nI w.length),.val (nI (nA w w.length)),.val (nI (cB w).length)]) []:=by
 replace hcx:=hcx.reN (M:=43)
 refine cf (cx:=aS gl 43 pu) (rs:=[.cell 2 53]) rfl Tryd.func25 rfl rfl rfl (by simp only[List.length_cons,List.length_nil];decide) (by simp only[go_sem]) ?_
 simp only[dm,go_sem]
 have hy:=True.intro
 have hw1:=hw.1.1
 have hal:=e7 w
 have hw2:=hw.2.1
 have hVV:=True.intro
 have hVl:=True.intro
 refine Tr.w hcx [] _ [none,none] rfl rfl rfl ?_ eZ
 refine Tr.w hcx [] _ [none] rfl rfl rfl ?_ eZ
 refine af fun K1 hK1=>?_
 refine Tr.w hcx [] _ [] rfl rfl rfl ?_ eZ
 refine Tr.k [2,3,13,14,15] ?_
 refine ax ?_
 refine Tr.k [2,3,13,14,15] ?_
 refine ah hcx [1,2] ?_
 refine bz (α:=Nat) (fun a=>[(2,?v2_1),(3,?v3_1),(13,?v13_1),(14,?v14_1),(15,.val (nI a))]) (fun a=>[some (cl nC (List.replicate 3 0)),some [.val (nI w.length),.val (nI (nA w a)),.val (nI (pV w a).length)]]) (fun a=>a≤w.length) (fun a=>w.length - a) (0) (Nat.zero_le _) ?le_1 ?hh_1 ?bd_1
 case hh_1=>exact rfl
 case le_1=>exact LT
 rintro v hv
 have hp:=rh w v
 have hn1:=DQ w v
 have hn2:=DQ w (v+1)
 refine Tr.w hcx [] _ [] rfl rfl rfl ?_ eZ
 refine af fun K2 hK2=>?_
 refine bc rfl (fun hc16=>?_) (fun hc16=>?_)
 ·
  obtain ⟨V,hV⟩:∃V,gt w v=V:=⟨_,rfl⟩
  have hVV:=hV
  have hVl:=hw.1.2.1 v hc16
  have hAl:=hw.1.2.2 v
  have hpS:=pL w v hc16
  have hnS:=LC w v hc16
  rw[hV] at hVl hAl hpS hnS
  have hpS:=congrArg List.length hpS
  rw[List.length_append] at hpS
  refine Tr.skip ?_
  refine hK2 _ ?_
  refine af fun K3 hK3=>?_
  refine ax ?_
  refine Tr.w hcx [] _ [none] rfl rfl rfl ?_ eZ
  refine Tr.w hcx [] _ [] rfl rfl rfl ?_ eZ
  refine Tr.w hcx [] _ [] rfl rfl rfl ?_ eZ
  refine Tr.k [2,3,13,14,15,27,28,29] ?_
  refine ax ?_
  refine Tr.k [2,3,13,14,15,27,28,29] ?_
  refine ah hcx [0,1] ?_
  refine bz (α:=Nat) (fun a=>[(2,?v2_2),(3,?v3_2),(13,?v13_2),(14,?v14_2),(15,?v15_2),(27,?v27_2),(28,?v28_2),(29,.val (nI a))]) (fun a=>[some (cl nC (List.replicate 3 0)),some [.val (nI w.length),.val (nI (nA w v+V.length)),.val (nI ((pV w v).length+(pA V a).length))]]) (fun a=>a≤V.length) (fun a=>V.length - a) (0) (Nat.zero_le _) ?le_2 ?hh_2 ?bd_2
  case hh_2=>exact rfl
  case le_2=>exact LT
  rintro k hk
  have hp2:=oO w v (k+1) hc16
  rw[hV] at hp2
  refine Tr.w hcx [] _ [] rfl rfl rfl ?_ eZ
  refine af fun K4 hK4=>?_
  refine bc rfl (fun hc30=>?_) (fun hc30=>?_)
  ·
   have hAk:=hAl k hc16 hc30
   have hpA:=congrArg List.length (lO V k hc30)
   rw[List.length_append] at hpA
   refine Tr.skip ?_
   refine hK4 _ ?_
   refine af fun K5 hK5=>?_
   refine ax ?_
   refine Tr.w hcx [] _ [none] rfl rfl rfl ?_ eZ
   refine Tr.v hcx [] _ [] rfl rfl rfl ?_ eZ
   refine hK5 _ ?_
   refine Tr.k [2,3,13,14,15,27,28,29] ?_
   refine ah hcx [0,1] ?_
   refine Tr.v hcx [] _ [] rfl rfl rfl ?_ eZ
   exact ⟨k+1,⟨(by omega),O1⟩,LT,by simp only[hpA,Nat.add_assoc]⟩
  refine Tr.exit ?_
  refine hK3 _ ?_
  obtain rfl:k=V.length:=by omega
  refine Tr.v hcx [] _ [] rfl rfl rfl ?_ eZ
  exact ⟨v+1,⟨(by omega),O1⟩,LT,by simp only[LC w v hc16,hpS,hV]⟩
 refine Tr.exit ?_
 refine hK1 _ ?_
 obtain rfl:v=w.length:=by omega
 rw[←lP]
 refine Tr.w hcx [] _ [] rfl rfl rfl ?_ eZ
 exact Tr.ret LD
end Go.Sx
namespace Go.Sx
open Go.RowKit Go.Proofs
set_option maxRecDepth 100000
set_option maxHeartbeats 8000000
theorem tn {gl:Nat→C}{M:Nat}{pu:Nat→List C→Option C}{n:Nat}{Q:Ex→St→Prop}{g f m:Nat}{ps:List Nat}{assign body:Code}{e:List (Nat×C)}{h:Hp}{caps:List C}(N:Nat)(xs:Nat→List C)(H:Nat→Hp)(R:Nat→Hp→Prop)(F:Nat→Prop)(hg:A e g= .fn f caps)(hI:ItrB Tryd.prog gl f caps N xs R∧∀i,R m (H i))
 (hx:∀i,i< N→(xs i).length=ps.length) (hp:∀p∈ps,p< M) (h0:h=H 0) (hF:F 0)
 (hb:∀i,i< N→F i→Tr (ir gl M pu) (H i).length assign ⟨A (fR ps (xs i) (mU e)),H i⟩ fun x s=>x= .normal∧Tr (ir gl M pu) (H i).length body s (RoundQ (H i).length (fun k=>k=H (i+1)∧F (i+1)) fun x h'=>Q x ⟨A e,h'⟩))
 (hd:F N→Q .normal ⟨A e,H N⟩):Tr (jr gl M pu) n (.rangeFunc (.tmp g) ps.toArray assign body) ⟨A e,h⟩ Q:=
 sY (cx:=jr gl M pu) rfl (fun i k=>k=H i∧F i) hg (hI.1 m _ fun i k hk=>by rw[hk.1];exact hI.2 i) hx hp ⟨h0,hF⟩ (fun i k hi hk=>by obtain ⟨rfl,hk⟩:=hk;rw[oB,kC];exact hb i hi hk) (fun k hk=>by obtain ⟨rfl,hk⟩:=hk;exact hd hk)
def jA (w:aj):Bool:=(cB w).all cI
def d4 (w:aj):List ID:=(cB w).map (·.1)
def tp (w:aj):Nat→Int
 |0=>2
 |i+1=>(gt (aK w) i).2.2.1
def jB (w:aj)(j:Nat):Bool:= !(decide ((gt (aK w) j).2.2.1=1) && (decide ((gt (aK w) j).1.2.2=0) ||decide (tp w j=2)))
def lV (w:aj):Bool:=(List.range (aK w).length).all (jB w)
def ec (w:aj):Nat:=if du w=true then 4 else if jA w=false then 1 else if gi w=false then 1 else if ¬ (d4 w).Nodup then 7 else if lV w=false then 8 else 0
theorem LE {w:aj}(h:du w=true):ec w=4:=if_pos h
theorem LF {w:aj}(h:du w=false)(h1:jA w=false):ec w=1:=by unfold ec;rw[h,h1];rfl
theorem LG {w:aj}(h:du w=false)(h1:jA w=true)(h2:gi w=false):ec w=1:=by unfold ec;rw[h,h1,h2];rfl
theorem LH {w:aj}(h:du w=false)(h1:jA w=true)(h2:gi w=true)(h3:¬ (d4 w).Nodup):ec w=7:=by unfold ec;rw[h,h1,h2,if_pos h3];rfl
theorem zu {w:aj}(h:du w=false)(h1:jA w=true)(h2:gi w=true)(h3: (d4 w).Nodup)(h4:lV w=false):ec w=8:=by simp[ec,h,h1,h2,h3,h4]
theorem LJ {w:aj}(h:du w=false)(h1:jA w=true)(h2:gi w=true)(h3: (d4 w).Nodup)(h4:lV w=true):ec w=0:=by simp[ec,h,h1,h2,h3,h4]
theorem LK {w:aj}(h:∀j,j< (aK w).length→cI (gt (aK w) j).2=true):jA w=true:=jX fun j hj=>by rw[lY w j (by rw[e7] at hj;exact hj)];exact h j (by rw[e7] at hj;exact hj)
theorem LL {w:aj}{j:Nat}(hj:j< (aK w).length)(h:cI (gt (aK w) j).2=false):jA w=false:=iL (by rw[e7];exact hj) (by rw[lY w j hj];exact h)
theorem nQ (w:aj): (d4 w).length= (aK w).length:=by unfold d4;rw[List.length_map,e7]
theorem uP (w:aj)(i:Nat)(h:i< (aK w).length):gt (d4 w) i= (gt (aK w) i).2.1:=by
 rw[←lY w i h]
 have h2:i< (cB w).length:=by rw[e7];exact h
 simp[d4,gt,List.getD,List.getElem?_map,List.getElem?_eq_getElem h2]
theorem CT {l:List ID}{x:ID}:x∈cR l↔x∈l:=by
 have:∀ (l M:List ID),x∈l.foldl jE M↔x∈M∨x∈l:=fun l=>by
  induction l with
  |nil=>intro M;simp
  |cons y l ih=>
   intro M
   rw[List.foldl_cons,ih]
   unfold jE
   split
   . rename_i h
     constructor
     . rintro (h1|h1)
       . exact .inl h1
       . exact .inr (List.mem_cons_of_mem _ h1)
     . rintro (h1|h1)
       . exact .inl h1
       . rcases List.mem_cons.1 h1 with rfl|h1
         . exact .inl h
         . exact .inr h1
   . simp only[List.mem_append,List.mem_cons,List.not_mem_nil,or_false]
     constructor
     . rintro ((h1|h1) |h1)
       . exact .inl h1
       . exact .inr (.inl h1)
       . exact .inr (.inr h1)
     . rintro (h1|h1|h1)
       . exact .inl (.inl h1)
       . exact .inl (.inr h1)
       . exact .inr h1
 have h:=this l []
 unfold cR
 simpa using h
theorem G9 {l:List ID}{i:Nat}(h:i< l.length)(h2:gt l i∈l.take i):¬l.Nodup:=by
 intro hn
 have e:=eC l i h
 have h3:=(List.take_sublist (i+1) l).nodup hn
 rw[←e,List.nodup_append] at h3
 exact h3.2.2 _ h2 _ (List.mem_singleton.2 rfl) rfl
theorem Ha {l:List ID}{i:Nat}(h:i< l.length)(hn: (l.take i).Nodup)(h2:¬gt l i∈l.take i): (l.take (i+1)).Nodup:=by
 rw[←eC l i h,List.nodup_append]
 refine ⟨hn,by simp,fun a ha b hb e=>?_⟩
 rw[List.mem_singleton] at hb;subst hb;subst e
 exact h2 ha
theorem LN {w:aj}{j:Nat}(h:¬ ((gt (aK w) j).2.2.1=1∧((gt (aK w) j).1.2.2=0∨tp w j=2))):jB w j=true:=by
 unfold jB
 by_cases h1: (gt (aK w) j).2.2.1=1
 . rw[decide_eq_false (fun e=>h ⟨h1,.inl e⟩),decide_eq_false (fun e=>h ⟨h1,.inr e⟩)];simp
 . rw[decide_eq_false h1];rfl
theorem LO {w:aj}{j:Nat}(h: (gt (aK w) j).2.2.1=1)(h2: (gt (aK w) j).1.2.2=0∨tp w j=2):jB w j=false:=by
 unfold jB
 rw[decide_eq_true h]
 rcases h2 with h2|h2<;>rw[decide_eq_true h2] <;>simp
theorem LP {w:aj}(h:∀j,j< (aK w).length→jB w j=true):lV w=true:=by
 unfold lV;rw[List.all_eq_true];exact fun j hj=>h j (List.mem_range.1 hj)
theorem zv {w:aj}{j:Nat}(hj:j< (aK w).length)(h:jB w j=false):lV w=false:=by
 unfold lV;rw[List.all_eq_false];exact ⟨j,List.mem_range.2 hj,by rw[h];simp⟩
theorem LQ {w:aj}{M:List ID}{r:Hp}{k:Nat}(b:Nat)(cells:List C)(hb:b< 3)(hq: (some [sl vC .no w]::some [.val (nI 0)]::some (c9 (cZ M))::r:Hp)[b]? =some (some cells)):noRefs k cells=true:=by
 rcases b with _|_|_|b
 . cases hq;simp only[aE,aJ,aI,Bool.and_self]
 . cases hq;rfl
 . cases hq;exact ta _ _
 . omega
theorem bH {p:Prop}(e:p:=by intro KZ hZ;simp -implicitDefEqProofs (disch:=first|omega| (simp only[go_sem,lA,lD,lT] <;>omega) |decide) only[go_sem,↓reduceIte,Nat.reduceEqDiff,reduceCtorEq,Nat.reduceLT,Nat.reduceBEq,Nat.reduceAdd,e52,h53,e55,e54,ep,hPx,c0,c1,c2,c3,d1,d2,d3,hy];with_reducible exact hZ):p:=e
theorem je {p:Prop}(e:p:=by simp -implicitDefEqProofs (disch:=first|omega| (simp only[go_sem,lA,lD,lT] <;>omega) |decide) only[go_sem,↓reduceIte,Nat.reduceEqDiff,reduceCtorEq];all_goals (first|rw[hR] | (rw[hR];rfl))):p:=e
theorem Qb {gl:Nat→C}{M:Nat}{pu:Nat→List C→Option C}(hcx:CxOK (jr gl M pu))(h52:∀w:aj,WS w→pu 52 [.agg [sl vC .no w]] =some (.val (.bool (du w))))(h53:∀w:aj,pu 53 [.agg [sl vC .no w]] =some (.fn 93 [.kp [sl vC .no w]]))(h54:∀p:aN,p.2.2.2.1.length≤1000000→p.2.2.2.2.length≤1000000→pu 54 [.agg (pC p)] =some (.val (.bool (cI p))))(h55:∀w:aj,WB w→(∀v a,v< w.length→a< (gt w v).length→(gt (gt w v) a).1.length≤1000000)→pu 55 [.agg [sl vC .no w]] =some (.val (.bool (gi w))))(w:aj)(hw:WS w)(ht:∀i,i< (aK w).length→(gt (aK w) i).2.2.2.2.1.length≤1000000)(htt:∀v a,v< w.length→a< (gt w v).length→(gt (gt w v) a).1.length≤1000000)(hid:∀i,i< (aK w).length→b9 (gt (aK w) i).2.1):FC Tryd.prog gl 12 [.agg [sl vC .no w]] [] (.val (nI (ec w))) []:=by
 replace hcx:=hcx.reN (M:=51)
 refine cf (cx:=jr gl 51 pu) (rs:=[.cell 2 25]) rfl Tryd.func12 rfl rfl rfl (by simp only[List.length_cons,List.length_nil];decide) (by simp only[go_sem]) ?_
 simp only[dm,go_sem]
 have c0:=True.intro
 have c1:=True.intro
 have c2:=True.intro
 have c3:=True.intro
 have d1:=True.intro
 have d2:=True.intro
 have d3:=True.intro
 have hy:=True.intro
 have e52:=h52 w hw
 have e55:=h55 w hw.1 htt
 have e54:=True.intro
 have ep:=True.intro
 have hPx:=True.intro
 have hmv:=fun (ρ:List Nat) (M:List ID) =>mvCs_nr ρ (c9 (cZ M)) (ml M)
 refine Tr.w hcx [] _ [none,none] rfl rfl rfl ?_ bH
 refine af fun K1 hK1=>?_
 by_cases c0:du w=true
 ·
  skip
  refine Tr.w hcx [] _ [] rfl rfl rfl ?_ bH
  refine bh rfl ?_
  have hR:=LE c0
  refine Tr.w hcx [] _ [] rfl rfl rfl ?_ bH
  exact Tr.ret je
 replace c0:=(Bool.not_eq_true _).mp c0
 refine Tr.w hcx [] _ [] rfl rfl rfl ?_ bH
 refine au rfl ?_
 refine Tr.skip ?_
 refine hK1 _ ?_
 refine af fun K2 hK2=>?_
 refine Tr.w hcx [] _ [] rfl rfl rfl ?_ bH
 refine ax ?_
 refine Tr.k [1,2,14] ?_
 refine tn ((aK w).length) (qM w) (fun i=>[some [sl vC .no w],some [.val (nI 0)]]) (RowN) (fun i=> ∀j,j< i→cI (gt (aK w) j).2=true) rfl (⟨tA (oL hcx) w hw.1,fun i=>(RowN.nil.c rfl rfl).c (by simp only[aE,aJ,aI,Bool.and_self]) rfl⟩) (fun i hi=>rfl) (by decide) (rfl) (fun j hj=>absurd hj (Nat.not_lt_zero j)) ?rb_1 ?rd_1
 case rb_1=>
  intro i hi hF
  replace hcx:=hcx.rnd
  have aW:= @tB
  simp only[go_sem]
  have e54:=h54 _ (ht i hi) (hw.2.2 i hi)
  refine Tr.v hcx [] _ [none] rfl rfl rfl ?_ bH
  refine ⟨rfl,?_⟩
  refine Tr.k [2,4] ?_
  refine ax ?_
  by_cases c1:cI (gt (aK w) i).2=true
  ·
   skip
   refine Tr.w hcx [] _ [] rfl rfl rfl ?_ bH
   refine au rfl ?_
   refine Tr.skip ?_
   exact RoundQ.c (⟨rfl,fun j hj=>(Nat.lt_or_eq_of_le (Nat.le_of_lt_succ hj)).elim (hF j) (fun e=>by subst e;exact c1)⟩)
  replace c1:=(Bool.not_eq_true _).mp c1
  refine Tr.w hcx [] _ [] rfl rfl rfl ?_ bH
  refine bh rfl ?_
  have hR:=LF c0 (LL hi c1)
  refine Tr.w hcx [] _ [] rfl rfl rfl ?_ bH
  exact Tr.ret (RoundQ.r je)
 case rd_1=>
  intro hF1
  have hO:=LK hF1
  refine hK2 _ ?_
  refine af fun K3 hK3=>?_
  by_cases c2:gi w=true
  ·
   skip
   refine Tr.w hcx [] _ [] rfl rfl rfl ?_ bH
   refine au rfl ?_
   refine Tr.skip ?_
   refine hK3 _ ?_
   refine Tr.w hcx [] _ [none] rfl rfl rfl ?_ bH
   refine af fun K4 hK4=>?_
   refine ab hcx 2 [.mp 3] ?_
   refine Tr.k [1,2,5] ?_
   refine ah hcx [0,1,3] ?_
   refine Tr.w hcx [] _ [] rfl rfl rfl ?_ bH
   refine ax ?_
   refine Tr.k [1,2,5,25] ?_
   refine tn ((aK w).length) (qM w) (fun i=>[some [sl vC .no w],some [.val (nI 0)],some (c9 (cZ (cR ((d4 w).take i))))]) (RowN) (fun i=>((d4 w).take i).Nodup) rfl (⟨tA (oL hcx) w hw.1,fun i=>((RowN.nil.m (ml _)).c rfl rfl).c (by simp only[aE,aJ,aI,Bool.and_self]) rfl⟩) (fun i hi=>rfl) (by decide) (rfl) (List.nodup_nil) ?rb_2 ?rd_2
   case rb_2=>
    intro i hi hF
    replace hcx:=hcx.rnd
    have aW:= @tB
    simp only[go_sem]
    have hIl:i< (d4 w).length:=by rw[nQ];exact hi
    have hg:=uP w i hi
    have hM:OkI (cR ((d4 w).take i)):=pK fun x hx=>by
     obtain ⟨j,hj,rfl⟩:=List.getElem_of_mem (List.mem_of_mem_take hx)
     have hj2:j< (aK w).length:=by rw[←nQ];exact hj
     have:=hid j hj2
     rw[←uP w j hj2] at this
     simpa[gt,List.getD,List.getElem?_eq_getElem hj] using this
    have ex:=hid i hi
    have hm0:=CT (l:=(d4 w).take i) (x:=gt (d4 w) i)
    have hS2:=uM (d4 w) i hIl
    have hD:=G9 hIl
    have hE:=Ha hIl hF
    obtain ⟨P,hP⟩:∃P,(gt (aK w) i).2=P:=⟨_,rfl⟩
    rw[hP] at ex hg
    rw[hP]
    rw[hg] at hm0 hS2 hD hE
    obtain ⟨S,hS⟩:∃S,cR ((d4 w).take i) =S:=⟨_,rfl⟩
    rw[hS] at hM hm0 hS2
    rw[hS]
    have ep:=And.intro (fun a b r=>Ag (cx:=ir gl 51 pu) rfl rfl (h:=a::b::some (c9 (cZ S))::r) (b:=2) rfl hM ex) (fun a b r=>EB (cx:=ir gl 51 pu) rfl rfl (h:=a::b::some (c9 (cZ S))::r) (b:=2) rfl hM ex)
    refine Tr.v hcx [] _ [none] rfl rfl rfl ?_ bH
    refine ⟨rfl,?_⟩
    refine Tr.k [2,5,7] ?_
    refine ax ?_
    refine af fun K5 hK5=>?_
    by_cases c3:P.1∈S
    ·
     refine Tr.w hcx [] _ [] rfl rfl rfl ?_ bH
     refine bh rfl ?_
     have hR:=LH c0 hO c2 (hD (hm0.1 c3))
     refine Tr.w hcx [] _ [] rfl rfl rfl ?_ bH
     exact Tr.ret (RoundQ.r je)
    refine Tr.w hcx [] _ [] rfl rfl rfl ?_ bH
    refine au rfl ?_
    refine Tr.skip ?_
    refine hK5 _ ?_
    refine Tr.v hcx [] _ [] rfl rfl rfl ?_ bH
    exact RoundQ.c (⟨by simp only[←hS2];rfl,hE (fun h=>c3 (hm0.2 h))⟩) (LQ)
   case rd_2=>
    intro hF2
    have hN: (d4 w).Nodup:=by rw[←nQ,List.take_length] at hF2;exact hF2
    refine hK4 _ ?_
    refine Tr.w hcx [] _ [none] rfl rfl rfl ?_ bH
    refine af fun K6 hK6=>?_
    refine Tr.k [1,2,8] ?_
    refine ah hcx [0,1,3] ?_
    refine Tr.w hcx [] _ [] rfl rfl rfl ?_ bH
    refine ax ?_
    refine Tr.k [2,8,36] ?_
    refine ah hcx [1,2] ?_
    refine tn ((aK w).length) (qM w) (fun i=>[some [.val (nI 0)],some [.val (.int .i64 (tp w i))]]) (RowN) (fun i=> ∀j,j< i→jB w j=true) rfl (⟨tA (oL hcx) w hw.1,fun i=>(RowN.nil.c rfl rfl).c rfl rfl⟩) (fun i hi=>rfl) (by decide) (rfl) (fun j hj=>absurd hj (Nat.not_lt_zero j)) ?rb_3 ?rd_3
    case rb_3=>
     intro i hi hF
     replace hcx:=hcx.rnd
     have aW:= @tB
     simp only[go_sem]
     have hsT:=LN (w:=w) (j:=i)
     have hsF:=LO (w:=w) (j:=i)
     have hbS:tp w (i+1) = (gt (aK w) i).2.2.1:=rfl
     obtain ⟨P,hP⟩:∃P,(gt (aK w) i).2=P:=⟨_,rfl⟩
     obtain ⟨B,hB⟩:∃B,tp w i=B:=⟨_,rfl⟩
     obtain ⟨X,hX⟩:∃X,(gt (aK w) i).1.2.2=X:=⟨_,rfl⟩
     rw[hP] at hsT hsF hbS
     rw[hP]
     rw[hB] at hsT hsF
     rw[hB]
     rw[hX] at hsT hsF
     have hPx:=And.intro hP hX
     refine Tr.w hcx [] _ [none] rfl rfl rfl ?_ bH
     refine Tr.v hcx [] _ [none] rfl rfl rfl ?_ bH
     refine ⟨rfl,?_⟩
     refine Tr.k [2,8,9,10] ?_
     refine ax ?_
     refine af fun K7 hK7=>?_
     by_cases d1:X=0
     ·
      have d1o:=d1
      replace d1:=eq_true d1
      refine Tr.w hcx [] _ [] rfl rfl rfl ?_ bH
      refine bh rfl ?_
      refine Tr.v hcx [] _ [] rfl rfl rfl ?_ bH
      refine hK7 _ ?_
      refine af fun K8 hK8=>?_
      by_cases d2:P.2.1= ((1:Nat):Int)
      ·
       have d2o:=d2
       replace d2:=eq_true d2
       have d3:=True.intro
       refine Tr.w hcx [] [some 42,some 43,some 44,some 45,some 46,some 47,some 48] [] rfl rfl rfl ?_ bH
       refine bh rfl ?_
       have hR:=zu c0 hO c2 hN (zv hi (hsF d2o (.inl d1o)))
       refine Tr.w hcx [] _ [] rfl rfl rfl ?_ bH
       exact Tr.ret (RoundQ.r je)
      have d2o:=d2
      replace d2:=eq_false d2
      have d3:=True.intro
      refine Tr.w hcx [] [some 42,some 43,some 44,some 45,some 46,some 47,some 48] [] rfl rfl rfl ?_ bH
      refine au rfl ?_
      refine Tr.skip ?_
      refine hK8 _ ?_
      refine Tr.v hcx [] _ [] rfl rfl rfl ?_ bH
      exact RoundQ.c (⟨by simp only[hbS];rfl,fun j hj=>(Nat.lt_or_eq_of_le (Nat.le_of_lt_succ hj)).elim (hF j) (fun e=>by subst e;exact hsT (by rintro ⟨q1,q2⟩;first|exact d2o q1|exact q2.elim d1o d3o))⟩)
     have d1o:=d1
     replace d1:=eq_false d1
     refine Tr.w hcx [] _ [] rfl rfl rfl ?_ bH
     refine au rfl ?_
     refine Tr.skip ?_
     refine hK7 _ ?_
     refine af fun K9 hK9=>?_
     by_cases d2:P.2.1= ((1:Nat):Int)
     ·
      have d2o:=d2
      replace d2:=eq_true d2
      by_cases d3:B= ((2:Nat):Int)
      ·
       have d3o:=d3
       replace d3:=eq_true d3
       skip
       refine Tr.w hcx [] [some 42,some 43,some 44,some 45,some 46,some 47,some 48] [] rfl rfl rfl ?_ bH
       refine bh rfl ?_
       have hR:=zu c0 hO c2 hN (zv hi (hsF d2o (.inr d3o)))
       refine Tr.w hcx [] _ [] rfl rfl rfl ?_ bH
       exact Tr.ret (RoundQ.r je)
      have d3o:=d3
      replace d3:=eq_false d3
      skip
      refine Tr.w hcx [] [some 42,some 43,some 44,some 45,some 46,some 47,some 48] [] rfl rfl rfl ?_ bH
      refine au rfl ?_
      refine Tr.skip ?_
      refine hK9 _ ?_
      refine Tr.v hcx [] _ [] rfl rfl rfl ?_ bH
      exact RoundQ.c (⟨by simp only[hbS];rfl,fun j hj=>(Nat.lt_or_eq_of_le (Nat.le_of_lt_succ hj)).elim (hF j) (fun e=>by subst e;exact hsT (by rintro ⟨q1,q2⟩;first|exact d2o q1|exact q2.elim d1o d3o))⟩)
     have d2o:=d2
     replace d2:=eq_false d2
     have d3:=True.intro
     refine Tr.w hcx [] [some 42,some 43,some 44,some 45,some 46,some 47,some 48] [] rfl rfl rfl ?_ bH
     refine au rfl ?_
     refine Tr.skip ?_
     refine hK9 _ ?_
     refine Tr.v hcx [] _ [] rfl rfl rfl ?_ bH
     exact RoundQ.c (⟨by simp only[hbS];rfl,fun j hj=>(Nat.lt_or_eq_of_le (Nat.le_of_lt_succ hj)).elim (hF j) (fun e=>by subst e;exact hsT (by rintro ⟨q1,q2⟩;first|exact d2o q1|exact q2.elim d1o d3o))⟩)
    case rd_3=>
     intro hF3
     have hR:=LJ c0 hO c2 hN (LP hF3)
     refine hK6 _ ?_
     refine Tr.w hcx [] _ [] rfl rfl rfl ?_ bH
     exact Tr.ret je
  replace c2:=(Bool.not_eq_true _).mp c2
  refine Tr.w hcx [] _ [] rfl rfl rfl ?_ bH
  refine bh rfl ?_
  have hR:=LG c0 hO c2
  refine Tr.w hcx [] _ [] rfl rfl rfl ?_ bH
  exact Tr.ret je
end Go.Sx
