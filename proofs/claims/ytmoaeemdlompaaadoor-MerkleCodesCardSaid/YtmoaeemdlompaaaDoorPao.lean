/-
   And what follows.
-/
import Derived.Test.YtmoaeemdlompaaaDoorPan
set_option linter.unusedSimpArgs false
set_option linter.unusedVariables false
namespace Go.Sx
open Go.RowKit Go.Proofs
def bl (a b:List UInt8):Bool:=Op.bytesLess a b
theorem tB (b:List UInt8):bl [] b=decide (0< b.length):=by cases b<;>simp[bl,Op.bytesLess]
theorem jt (a:List UInt8):bl a [] =false:=by cases a<;>simp[bl,Op.bytesLess]
theorem nt (x y:UInt8)(a b:List UInt8):bl (x::a) (y::b) =if x< y then true else if y< x then false else bl a b:=by
 show (decide (x< y) || (x==y && Op.bytesLess a b)) =_
 by_cases h:x< y
 . simp[h]
 . by_cases h':y< x
   . have e:¬x=y:=fun e=>by subst e;exact h h'
     simp[h,h',e]
   . have e:x=y:=by
      apply UInt8.toNat_inj.1;rw[UInt8.lt_iff_toNat_lt] at h h';omega
     simp[e,bl]
theorem zn:∀a:List UInt8,bl a a=false
 | [] =>jt []
 |x::a=>by rw[nt,if_neg (by rw[UInt8.lt_iff_toNat_lt];omega),if_neg (by rw[UInt8.lt_iff_toNat_lt];omega)];exact zn a
theorem zo:∀a b:List UInt8,(bl a b||decide (a=b)) = !bl b a
 | [],[] =>by rw[jt];rfl
 | [],y::b=>by rw[tB,jt];rfl
 |x::a,[] =>by rw[jt,tB];rfl
 |x::a,y::b=>by
  rw[nt,nt]
  have ih:=zo a b
  by_cases h:x< y
  . have h':¬y< x:=by rw[UInt8.lt_iff_toNat_lt] at h ⊢;omega
    rw[if_pos h,if_neg h',if_pos h];rfl
  . by_cases h':y< x
    . rw[if_neg h,if_pos h',if_pos h']
      have:¬ (x::a=y::b):=fun e=>by injection e with e _;subst e;exact h h'
      rw[decide_eq_false this];rfl
    . have e:x=y:=by
       apply UInt8.toNat_inj.1;rw[UInt8.lt_iff_toNat_lt] at h h';omega
      subst e
      rw[if_neg h,if_neg h,if_neg h,if_neg h,←ih]
      congr 1;simp
theorem j7:∀ {a b c:List UInt8},bl a b=true→bl b c=true→bl a c=true
 |a,b,[],h1,h2=>by rw[jt] at h2;cases h2
 |a,[],c,h1,h2=>by rw[jt] at h1;cases h1
 | [],y::b,z::c,h1,h2=>by rw[tB];rfl
 |x::a,y::b,z::c,h1,h2=>by
  rw[nt] at h1 h2 ⊢
  simp only[UInt8.lt_iff_toNat_lt] at h1 h2 ⊢
  by_cases hxy:x.toNat< y.toNat
  . by_cases hyz:y.toNat< z.toNat
    . rw[if_pos (by omega)]
    . rw[if_neg hyz] at h2
      by_cases hzy:z.toNat< y.toNat
      . rw[if_pos hzy] at h2;cases h2
      . rw[if_pos (by omega)]
  . rw[if_neg hxy] at h1
    by_cases hyx:y.toNat< x.toNat
    . rw[if_pos hyx] at h1;cases h1
    . rw[if_neg hyx] at h1
      by_cases hyz:y.toNat< z.toNat
      . rw[if_pos (by omega)]
      . rw[if_neg hyz] at h2
        by_cases hzy:z.toNat< y.toNat
        . rw[if_pos hzy] at h2;cases h2
        . rw[if_neg hzy] at h2
          rw[if_neg (by omega),if_neg (by omega)]
          exact j7 h1 h2
theorem JV {a b c:List UInt8}(h1:bl a b=true)(h2:bl c b=false):bl a c=true:=by
 have:=zo b c
 rw[h2] at this
 by_cases e:b=c
 . rw[←e];exact h1
 . rw[decide_eq_false e,Bool.or_false] at this;exact j7 h1 this
def fF (a b:List UInt8):Int:=if bl a b then -1 else if a=b then 0 else 1
section
variable {P:Program} {t:TypeId}
theorem abd (x y:List UInt8):aw P .leq t (.val (str x)) (.val (str y)) =some (vp (.val (.bool (!bl y x)))):=by
 simp only[str,lP,bX,kV,Option.map_some]
 rw[←zo x y]
 congr 5
 by_cases h:x=y<;>simp[h]
theorem abe (x y:List UInt8):aw P .geq t (.val (str x)) (.val (str y)) =some (vp (.val (.bool (!bl x y)))):=by
 simp only[str,lP,bX,kV,Option.map_some];rfl
theorem UH (x y:List UInt8):aw P .lss t (.val (str x)) (.val (str y)) =some (vp (.val (.bool (bl x y)))):=P2 P t x y
end
attribute [go_sem] abd abe
attribute [go_sem high] UH
def ofT (tag:Int)(parts:List (List UInt8)):List UInt8:=(gx (co tag parts)).take 16
theorem dW (tag:Int)(parts:List (List UInt8)): (ofT tag parts).length=16:=by unfold ofT;rw[List.length_take,Dh];rfl
theorem lV (tag:Int)(a b:List UInt8)(ha:a.length< 1000000)(hb:b.length< 1000000): (co tag [a,b]).length< 1099511627776:=by
 have h1:=nM a (by omega)
 have h2:=nM b (by omega)
 unfold co
 simp only[List.flatMap_cons,List.flatMap_nil,List.append_nil,List.length_cons,List.length_append];omega
theorem JW (tag:Int)(a:List UInt8)(ha:a.length< 1000000): (co tag [a]).length< 1099511627776:=by
 have h1:=nM a (by omega)
 unfold co
 simp only[List.flatMap_cons,List.flatMap_nil,List.append_nil,List.length_cons];omega
def iQ (a b:List UInt8):List UInt8:=ofT 4 [a,b]
theorem cO (a b:List UInt8): (iQ a b).length=16:=dW _ _
def fK (x:ab):List UInt8:=ofT 3 [x.1,x.2]
theorem cI (x:ab): (fK x).length=16:=dW _ _
def g8 (n:Nat)(d:List UInt8):List UInt8:=if n=0 then ofT 4 [aA ((0:Nat):Int)] else ofT 4 [aA ((n:Nat):Int),d]
theorem gz (n:Nat)(d:List UInt8): (g8 n d).length=16:=by unfold g8;split<;>exact dW _ _
def jI (n:Nat):Nat→Nat→Nat
 |0,m=>m
 |f+1,m=>if 2*m< n then jI n f (2*m) else m
def aR (n:Nat):Nat:=jI n n 1
theorem FZ (n:Nat):∀ (f g m:Nat),0< m→n - m≤f→n - m≤g→jI n f m=jI n g m
 |0,0,m,_,_,_=>rfl
 |0,g+1,m,h0,h1,h2=>by unfold jI;rw[if_neg (by omega)]
 |f+1,0,m,h0,h1,h2=>by unfold jI;rw[if_neg (by omega)]
 |f+1,g+1,m,h0,h1,h2=>by
  unfold jI
  split
  . exact FZ n f g (2*m) (by omega) (by omega) (by omega)
  . rfl
theorem NC {n m:Nat}(h:2*m< n)(h0:0< m):jI n n m=jI n n (2*m):=by
 obtain ⟨k,rfl⟩:∃k,n=k+1:=⟨n - 1,by omega⟩
 show (if 2*m< k+1 then jI (k+1) k (2*m) else m) =_
 rw[if_pos h]
 exact FZ _ _ _ _ (by omega) (by omega) (by omega)
theorem ND {n m:Nat}(h:¬2*m< n):jI n n m=m:=by
 cases n with
 |zero=>rfl
 |succ k=>show (if 2*m< k+1 then jI (k+1) k (2*m) else m) =_;rw[if_neg h]
theorem F6 (n:Nat):∀f m,0< m→m< n→0< jI n f m∧jI n f m< n
 |0,m,h1,h2=>⟨h1,h2⟩
 |f+1,m,h1,h2=>by
  unfold jI;split
  . exact F6 n f (2*m) (by omega) (by omega)
  . exact ⟨h1,h2⟩
theorem gT {n:Nat}(h:1< n):0< aR n∧aR n< n:=F6 n n 1 (by omega) h
def du (l:List ab):Nat→Nat→Nat→List UInt8
 |0,a,_=>fK (gt l a)
 |d+1,a,b=>if b - a≤1 then fK (gt l a) else iQ (du l d a (a+aR (b - a))) (du l d (a+aR (b - a)) b)
theorem gA (l:List ab):∀d a b,(du l d a b).length=16
 |0,a,b=>cI _
 |d+1,a,b=>by unfold du;split;exact cI _;exact cO _ _
theorem CM (n:Nat):∀f k,2 ^ k< n→n - 2 ^ k≤f→∃j,jI n f (2 ^ k) =2 ^ j∧2 ^ j< n∧n≤2*2 ^ j
 |0,k,h1,h2=>⟨k,rfl,h1,by omega⟩
 |f+1,k,h1,h2=>by
  unfold jI
  have h3:=Nat.two_pow_pos k
  split
  . rename_i h
    have e:2*2 ^ k=2 ^ (k+1):=by rw[Nat.pow_succ];omega
    rw[e] at h ⊢
    exact CM n f (k+1) h (by omega)
  . exact ⟨k,rfl,h1,by omega⟩
theorem fg {n d:Nat}(h1:1< n)(h:n≤2 ^ (d+1)):aR n≤2 ^ d∧n - aR n≤2 ^ d:=by
 obtain ⟨j,e,h2,h3⟩:=CM n n 0 (by omega) (by omega)
 have e':aR n=2 ^ j:=e
 rw[e']
 have hj:j< d+1:=(Nat.pow_lt_pow_iff_right (by omega:1< 2)).1 (Nat.lt_of_lt_of_le h2 h)
 have:2 ^ j≤2 ^ d:=Nat.pow_le_pow_right (by omega) (by omega)
 omega
theorem qg (l:List ab):∀ (d e a b:Nat),b - a≤2 ^ d→b - a≤2 ^ e→du l d a b=du l e a b
 |0,0,a,b,_,_=>rfl
 |0,e+1,a,b,h1,h2=>by
  have:b - a≤1:=h1
  unfold du;rw[if_pos this]
 |d+1,0,a,b,h1,h2=>by
  have:b - a≤1:=h2
  unfold du;rw[if_pos this]
 |d+1,e+1,a,b,h1,h2=>by
  unfold du
  split
  . rfl
  . rename_i h
    have hh:=gT (n:=b - a) (by omega)
    have g1:=fg (by omega) h1
    have g2:=fg (by omega) h2
    rw[qg l d e a (a+aR (b - a)) (by omega) (by omega),qg l d e (a+aR (b - a)) b (by omega) (by omega)]
def lm (l:List ab):List UInt8:=du l 12 0 l.length
theorem sS (l:List ab): (lm l).length=16:=gA _ _ _ _
def cE (x:ab):Bool:=decide (65536< x.1.length) ||decide (65536< x.2.length)
def fL (l:List ab):Nat→Bool
 |0=>true
 |i+1=>fL l i && (decide (i=0) ||bl (gt l (i - 1)).1 (gt l i).1)
def cb (l:List ab):Nat:=if 4096< l.length∨l.any cE=true then 4 else if fL l l.length=true then 0 else 1
end Go.Sx
namespace Go.Sx
open Go.RowKit Go.Proofs
set_option maxRecDepth 100000
set_option maxHeartbeats 8000000
theorem oh (x y:List UInt8): ((List.replicate 2 []).set 0 x).set 1 y= [x,y]:=rfl
theorem U6 {a:List UInt8}(h:a.length=16):a.take 16=a:=List.take_of_length_le (by omega)
theorem lJ (n:Nat):C.val (.int .i64 ((n:Nat):Int)) =C.val (nI n):=rfl
theorem pw {p:Prop}(e:p:=by intro KZ hZ;simp -implicitDefEqProofs (disch:=first|omega| (simp only[go_sem,lA,lD,lT] <;>omega) |decide) only[go_sem,↓reduceIte,Nat.reduceEqDiff,reduceCtorEq,Nat.reduceLT,Nat.reduceBEq,Nat.reduceAdd,hy];with_reducible exact hZ):p:=e
theorem U7 {p:Prop}(e:p:=by simp -implicitDefEqProofs (disch:=first|omega| (simp only[go_sem,lA,lD,lT] <;>omega) |decide) only[go_sem,↓reduceIte,Nat.reduceEqDiff,reduceCtorEq];all_goals (rw[←hm.2.2,ND (by omega)])):p:=e
theorem agn {gl:Nat→C}{M:Nat}{pu:Nat→List C→Option C}(hcx:CxOK (af gl M pu))(x y:Nat)(hab:x≤y∧y≤4611686018427387000):FC Tryd.prog gl 81 [.val (nI x),.val (nI y)] [] (.val (nI (x+aR (y - x)))) []:=by
 replace hcx:=hcx.reN (M:=17)
 refine aB (cx:=af gl 17 pu) (rs:=[.tmp 4]) rfl Tryd.func81 rfl rfl rfl (by simp only[List.length_cons,List.length_nil];decide) (by simp only[go_sem]) ?_
 simp only[bq,go_sem]
 have hy:=True.intro
 refine Tr.w hcx [] _ [] rfl rfl rfl ?_ pw
 refine Tr.w hcx [] _ [] rfl rfl rfl ?_ pw
 refine Tr.k [0,1,5] ?_
 refine aa fun K1 hK1=>?_
 refine Tr.blk ?_
 refine aN (α:=Nat) (fun a=>[(0,?v0_1),(1,?v1_1),(5,.val (nI a))]) (fun a=>?h_1) (fun a=>0< a∧a≤(y - x)+1∧jI (y - x) (y - x) a=aR (y - x)) (fun a=>(y - x) - a) (1) ⟨by omega,by omega,rfl⟩ ?le_1 ?hh_1 ?bd_1
 case hh_1=>exact rfl
 case le_1=>exact LT
 rintro m hm
 refine aa fun K2 hK2=>?_
 refine Tr.w hcx [] _ [] rfl rfl rfl ?_ pw
 refine aq rfl (fun hc11=>?_) (fun hc11=>?_)
 ·
  refine Tr.skip ?_
  refine hK2 _ ?_
  refine Tr.blk ?_
  refine Tr.v hcx [1000013] _ [] rfl rfl rfl ?_ pw
  exact ⟨m*2,⟨⟨by omega,by omega,by rw[←hm.2.2,NC (by omega) hm.1,Nat.mul_comm]⟩,O1⟩,LT,rfl⟩
 refine Tr.exit ?_
 refine hK1 _ ?_
 refine Tr.w hcx [1000016] _ [] rfl rfl rfl ?_ pw
 exact Tr.ret U7
theorem ny {p:Prop}(e:p:=by intro KZ hZ;simp -implicitDefEqProofs (disch:=first|omega| (simp only[go_sem,lA,lD,lT] <;>omega) |decide) only[go_sem,↓reduceIte,Nat.reduceEqDiff,reduceCtorEq,Nat.reduceLT,Nat.reduceBEq,Nat.reduceAdd,hy];with_reducible exact hZ):p:=e
theorem QG {p:Prop}(e:p:=by simp -implicitDefEqProofs (disch:=first|omega| (simp only[go_sem,lA,lD,lT] <;>omega) |decide) only[go_sem,↓reduceIte,Nat.reduceEqDiff,reduceCtorEq];all_goals (rw[←hm.2.2,ND (by omega)])):p:=e
theorem abL {gl:Nat→C}{M:Nat}{pu:Nat→List C→Option C}(hcx:CxOK (af gl M pu))(n:Nat)(hn:n≤4611686018427387000):FC Tryd.prog gl 106 [.val (nI n)] [] (.val (nI (aR n))) []:=by
 replace hcx:=hcx.reN (M:=11)
 refine aB (cx:=af gl 11 pu) (rs:=[.tmp 2]) rfl Tryd.func106 rfl rfl rfl (by simp only[List.length_cons,List.length_nil];decide) (by simp only[go_sem]) ?_
 simp only[bq,go_sem]
 have hy:=True.intro
 refine Tr.w hcx [] _ [] rfl rfl rfl ?_ ny
 refine Tr.w hcx [] _ [] rfl rfl rfl ?_ ny
 refine Tr.k [0,3] ?_
 refine aa fun K1 hK1=>?_
 refine Tr.blk ?_
 refine aN (α:=Nat) (fun a=>[(0,?v0_1),(3,.val (nI a))]) (fun a=>?h_1) (fun a=>0< a∧a≤n+1∧jI n n a=aR n) (fun a=>n - a) (1) ⟨by omega,by omega,rfl⟩ ?le_1 ?hh_1 ?bd_1
 case hh_1=>exact rfl
 case le_1=>exact LT
 rintro m hm
 refine aa fun K2 hK2=>?_
 refine Tr.w hcx [] _ [] rfl rfl rfl ?_ ny
 refine aq rfl (fun hc7=>?_) (fun hc7=>?_)
 ·
  refine Tr.skip ?_
  refine hK2 _ ?_
  refine Tr.blk ?_
  refine Tr.v hcx [1000009] _ [] rfl rfl rfl ?_ ny
  exact ⟨2*m,⟨⟨by omega,by omega,by rw[←hm.2.2,NC (by omega) hm.1]⟩,O1⟩,LT,rfl⟩
 refine Tr.exit ?_
 refine hK1 _ ?_
 refine Tr.w hcx [1000010] _ [] rfl rfl rfl ?_ ny
 exact Tr.ret QG
theorem Gm {p:Prop}(e:p:=by intro KZ hZ;simp -implicitDefEqProofs (disch:=first|omega| (simp only[go_sem,lA,lD,lT,cI] <;>omega) |decide) only[go_sem,↓reduceIte,Nat.reduceEqDiff,reduceCtorEq,Nat.reduceLT,Nat.reduceBEq,Nat.reduceAdd,oh,e,hy];with_reducible exact hZ):p:=e
theorem U8 {p:Prop}(e:p:=by simp -implicitDefEqProofs (disch:=first|omega| (simp only[go_sem,lA,lD,lT,cI] <;>omega) |decide) only[go_sem,↓reduceIte,Nat.reduceEqDiff,reduceCtorEq];all_goals (rfl)):p:=e
theorem ago {gl:Nat→C}{M:Nat}{pu:Nat→List C→Option C}(hcx:CxOK (af gl M pu))(h78:∀ (tag:Int) (parts:List (List UInt8)),(co tag parts).length< 1099511627776→pu 78 [.val (.int .i64 tag),sl sC .no parts] =some (.agg (cl bC (ofT tag parts))))(x:ab)(hx:x.1.length≤65536∧x.2.length≤65536):FC Tryd.prog gl 80 [.agg (eC x)] [] (.agg (cl bC (fK x))) []:=by
 replace hcx:=hcx.reN (M:=9)
 refine aB (cx:=af gl 9 pu) (rs:=[.cell 2 29]) rfl Tryd.func80 rfl rfl rfl (by simp only[List.length_cons,List.length_nil];decide) (by simp only[go_sem]) ?_
 simp only[bq,go_sem]
 have hy:=True.intro
 have e:pu 78 [.val (nI 3),sl sC .no [x.1,x.2]] =some (.agg (cl bC (fK x))):=h78 3 [x.1,x.2] (lV 3 _ _ (by omega) (by omega))
 refine Tr.w hcx [] _ [none,none] rfl rfl rfl ?_ Gm
 refine Tr.w hcx [] _ [] rfl rfl rfl ?_ Gm
 exact Tr.ret U8
theorem U9 {p:Prop}(e:p:=by intro KZ hZ;simp -implicitDefEqProofs (disch:=first|omega| (simp only[go_sem,lA,lD,lT,ha,hb,cO] <;>omega) |decide) only[go_sem,↓reduceIte,Nat.reduceEqDiff,reduceCtorEq,Nat.reduceLT,Nat.reduceBEq,Nat.reduceAdd,oh,ta,tb,e,hy];with_reducible exact hZ):p:=e
theorem Va {p:Prop}(e:p:=by intro KZ hZ;simp -implicitDefEqProofs (disch:=first|omega| (simp only[go_sem,lA,lD,lT,ha,hb,cO] <;>omega) |decide) only[go_sem,↓reduceIte,Nat.reduceEqDiff,reduceCtorEq,Nat.reduceLT,Nat.reduceBEq,Nat.reduceAdd,oh,ta,tb,e,hy];refine And.intro ?_ hZ;exact rfl):p:=e
theorem Vb {p:Prop}(e:p:=by simp -implicitDefEqProofs (disch:=first|omega| (simp only[go_sem,lA,lD,lT,ha,hb,cO] <;>omega) |decide) only[go_sem,↓reduceIte,Nat.reduceEqDiff,reduceCtorEq];all_goals (rfl)):p:=e
theorem agp {gl:Nat→C}{M:Nat}{pu:Nat→List C→Option C}(hcx:CxOK (af gl M pu))(h78:∀ (tag:Int) (parts:List (List UInt8)),(co tag parts).length< 1099511627776→pu 78 [.val (.int .i64 tag),sl sC .no parts] =some (.agg (cl bC (ofT tag parts))))(a b:List UInt8)(ha:a.length=16)(hb:b.length=16):FC Tryd.prog gl 82 [.agg (cl bC a),.agg (cl bC b)] [] (.agg (cl bC (iQ a b))) []:=by
 replace hcx:=hcx.reN (M:=11)
 refine aB (cx:=af gl 11 pu) (rs:=[.cell 4 29]) rfl Tryd.func82 rfl rfl rfl (by simp only[List.length_cons,List.length_nil];decide) (by simp only[go_sem]) ?_
 simp only[bq,go_sem]
 have hy:=True.intro
 have hin:=lV 4 a b (by omega) (by omega)
 have e:pu 78 [.val (nI 4),sl sC .no [a,b]] =some (.agg (cl bC (iQ a b))):=h78 4 [a,b] hin
 have ta:=U6 ha
 have tb:=U6 hb
 refine Tr.w hcx [] _ [none,none,none] rfl rfl rfl ?_ U9
 refine Tr.wD hcx ct [] _ [] rfl rfl rfl rfl ?_ Va
 exact Tr.ret Vb
theorem zG {p:Prop}(e:p:=by intro KZ hZ;simp -implicitDefEqProofs (disch:=first|omega| (simp only[go_sem,lA,lD,lT] <;>omega) |decide) only[go_sem,↓reduceIte,Nat.reduceEqDiff,reduceCtorEq,Nat.reduceLT,Nat.reduceBEq,Nat.reduceAdd,b1,hy];with_reducible exact hZ):p:=e
theorem Gn {p:Prop}(e:p:=by simp -implicitDefEqProofs (disch:=first|omega| (simp only[go_sem,lA,lD,lT] <;>omega) |decide) only[go_sem,↓reduceIte,Nat.reduceEqDiff,reduceCtorEq];all_goals (simp[cE,b1])):p:=e
theorem agq {gl:Nat→C}{M:Nat}{pu:Nat→List C→Option C}(hcx:CxOK (af gl M pu))(x:ab)(hx:x.1.length< 9223372036854775808∧x.2.length< 9223372036854775808):FC Tryd.prog gl 54 [.agg (eC x)] [] (.val (.bool (cE x))) []:=by
 replace hcx:=hcx.reN (M:=13)
 refine aB (cx:=af gl 13 pu) (rs:=[.tmp 2]) rfl Tryd.func54 rfl rfl rfl (by simp only[List.length_cons,List.length_nil];decide) (by simp only[go_sem]) ?_
 simp only[bq,go_sem]
 have b1:=True.intro
 have hy:=True.intro
 refine Tr.w hcx [] _ [none] rfl rfl rfl ?_ zG
 by_cases b1:65536< x.1.length
 ·
  refine Tr.w hcx [1000012] [some 3,some 4,some 5,some 6,some 7,some 8,some 9,some 10,some 11,some 12,some 2] [] rfl rfl rfl ?_ zG
  exact Tr.ret Gn
 refine Tr.w hcx [1000012] [some 3,some 4,some 5,some 6,some 7,some 8,some 9,some 10,some 11,some 12,some 2] [] rfl rfl rfl ?_ zG
 exact Tr.ret Gn
theorem zH {p:Prop}(e:p:=by intro KZ hZ;simp -implicitDefEqProofs (disch:=first|omega| (simp only[go_sem,lA,lD,lT,hwl,gz,hd,dW,hw0] <;>omega) |decide) only[go_sem,↓reduceIte,Nat.reduceEqDiff,reduceCtorEq,Nat.reduceLT,Nat.reduceBEq,Nat.reduceAdd,oh,e0,e1,w0,w1,td,hy];with_reducible exact hZ):p:=e
theorem Vc {p:Prop}(e:p:=by intro KZ hZ;simp -implicitDefEqProofs (disch:=first|omega| (simp only[go_sem,lA,lD,lT,hwl,gz,hd,dW,hw0] <;>omega) |decide) only[go_sem,↓reduceIte,Nat.reduceEqDiff,reduceCtorEq,Nat.reduceLT,Nat.reduceBEq,Nat.reduceAdd,oh,e0,e1,w0,w1,td,hy];refine And.intro ?_ hZ;exact rfl):p:=e
theorem Gp {p:Prop}(e:p:=by simp -implicitDefEqProofs (disch:=first|omega| (simp only[go_sem,lA,lD,lT,hwl,gz,hd,dW,hw0] <;>omega) |decide) only[go_sem,↓reduceIte,Nat.reduceEqDiff,reduceCtorEq];all_goals (first| (rw[g8,if_pos hc6];done) | (rw[g8,if_neg hc6];done))):p:=e
theorem agr {gl:Nat→C}{M:Nat}{pu:Nat→List C→Option C}(hcx:CxOK (af gl M pu))(h78:∀ (tag:Int) (parts:List (List UInt8)),(co tag parts).length< 1099511627776→pu 78 [.val (.int .i64 tag),sl sC .no parts] =some (.agg (cl bC (ofT tag parts))))(h39:∀n:Int,-9223372036854775808≤n∧n≤9223372036854775807→pu 39 [.val (.int .i64 n)] =some (sl bC (.own 1) (aA n)))(n:Nat)(d:List UInt8)(hn:n≤4096)(hd:d.length=16):FC Tryd.prog gl 50 [.val (nI n),.agg (cl bC d)] [] (.agg (cl bC (g8 n d))) []:=by
 replace hcx:=hcx.reN (M:=18)
 refine aB (cx:=af gl 18 pu) (rs:=[.cell 4 29]) rfl Tryd.func50 rfl rfl rfl (by simp only[List.length_cons,List.length_nil];decide) (by simp only[go_sem]) ?_
 simp only[bq,go_sem]
 have hy:=True.intro
 have w0:pu 39 [.val (nI 0)] =some (sl bC (.own 1) (aA ((0:Nat):Int))):=h39 ((0:Nat):Int) (by omega)
 have w1:pu 39 [.val (nI n)] =some (sl bC (.own 1) (aA ((n:Nat):Int))):=h39 ((n:Nat):Int) (by omega)
 have hwl:=d8 n (by omega)
 have hw0:=d8 0 (by omega)
 have e0:pu 78 [.val (nI 4),sl sC .no [aA ((0:Nat):Int)]] =some (.agg (cl bC (ofT 4 [aA ((0:Nat):Int)]))):=h78 4 _ (JW 4 _ (by omega))
 have e1:pu 78 [.val (nI 4),sl sC .no [aA ((n:Nat):Int),d]] =some (.agg (cl bC (ofT 4 [aA ((n:Nat):Int),d]))):=h78 4 _ (lV 4 _ _ (by omega) (by omega))
 have td:=U6 hd
 refine Tr.w hcx [] _ [none,none] rfl rfl rfl ?_ zH
 refine aa fun K1 hK1=>?_
 refine Tr.w hcx [] _ [] rfl rfl rfl ?_ zH
 refine aq rfl (fun hc6=>?_) (fun hc6=>?_)
 ·
  refine Tr.w hcx [] _ [] rfl rfl rfl ?_ zH
  exact Tr.ret Gp
 refine Tr.skip ?_
 refine hK1 _ ?_
 refine Tr.wD hcx ct [] _ [] rfl rfl rfl rfl ?_ Vc
 exact Tr.ret Gp
end Go.Sx
namespace Go.Sx
open Go.RowKit Go.Proofs
set_option maxRecDepth 100000
set_option maxHeartbeats 8000000
theorem zM (l:List ab)(i:Nat)(h:i< l.length): (l.take (i+1)).any cE= ((l.take i).any cE||cE (gt l i)):=by
 rw[cM l i h,List.any_append];simp
theorem zN {l:List ab}{i:Nat}(h:i< l.length)(hb:cE (gt l i) =true):l.any cE=true:=by
 rw[List.any_eq_true];exact ⟨_,mK l i h,hb⟩
theorem nB {l:List ab}(h:4096< l.length∨l.any cE=true):cb l=4:=if_pos h
theorem zO {l:List ab}(h:¬ (4096< l.length∨l.any cE=true))(h2:fL l l.length=true):cb l=0:=by unfold cb;rw[if_neg h,if_pos h2]
theorem GT {l:List ab}(h:¬ (4096< l.length∨l.any cE=true))(h2:¬fL l l.length=true):cb l=1:=by unfold cb;rw[if_neg h,if_neg h2]
theorem CZ {l:List ab}{i:Nat}(hi:0< i)(h2:bl (gt l (i - 1)).1 (gt l i).1=false):∀n,i< n→fL l n=false
 |0,h=>by omega
 |n+1,h=>by
  by_cases e:i=n
  . subst e;unfold fL;rw[h2,decide_eq_false (by omega)];simp
  . unfold fL;rw[CZ hi h2 n (by omega)];rfl
theorem tL {l:List ab}{i:Nat}(h:fL l i=true)(h2:i=0∨bl (gt l (i - 1)).1 (gt l i).1=true):fL l (i+1) =true:=by
 unfold fL;rw[h]
 rcases h2 with h2|h2
 . rw[decide_eq_true h2];rfl
 . rw[h2];simp
theorem Vt {x:ab}(h:65536< x.1.length):cE x=true:=by simp[cE,h]
theorem Vu {x:ab}(h:65536< x.2.length):cE x=true:=by simp[cE,h]
theorem C0 {l:List ab}{i n:Nat}(hi:0< i)(h2:bl (gt l (i - 1)).1 (gt l i).1=false)(h:i< n):¬fL l n=true:=by rw[CZ hi h2 n h];simp
theorem zP {l:List ab}{i:Nat}(h1:¬i< l.length)(h2:i≤l.length∨i=1)(h:i≤l.length→fL l i=true):fL l l.length=true:=by
 by_cases e:l.length=0
 . rw[e];rfl
 . have e:i=l.length:=by omega
   rw[←e];exact h (by omega)
def LB (l:List ab):Prop:=l.length< 4611686018427387000∧∀i,i< l.length→(gt l i).1.length< 9223372036854775808∧(gt l i).2.length< 9223372036854775808
def lY (l:List ab):Int:=(((l.findIdx? cE).map fun n=>((n:Nat):Int)).getD (-1))
theorem Vv {l:List ab}{i:Nat}(h:i< l.length)(h0: (l.take i).any cE=false)(hb:cE (gt l i) =true):lY l= ((i:Nat):Int):=by
 have e:gt l i=l[i]:=by simp[gt,List.getD,List.getElem?_eq_getElem h]
 have:l.findIdx? cE=some i:=by
  rw[List.findIdx?_eq_some_iff_getElem]
  refine ⟨h,by rw[←e];exact hb,fun j hj=>?_⟩
  rw[List.any_eq_false] at h0
  have:=h0 l[j] (by rw[List.mem_take_iff_getElem];exact ⟨j,by omega,rfl⟩)
  simpa using this
 unfold lY;rw[this];rfl
theorem Vw {l:List ab}(h0:l.any cE=false):lY l= -1:=by
 have:l.findIdx? cE=none:=by
  rw[List.findIdx?_eq_none_iff];rw[List.any_eq_false] at h0;intro x hx;simpa using h0 x hx
 unfold lY;rw[this];rfl
theorem QK (l:List ab): (0≤lY l) = (l.any cE=true):=by
 unfold lY
 cases h:l.findIdx? cE with
 |none=>
  rw[List.findIdx?_eq_none_iff] at h
  have:l.any cE=false:=by rw[List.any_eq_false];intro x hx;simp[h x hx]
  simp[this]
 |some n=>
  rw[List.findIdx?_eq_some_iff_getElem] at h
  obtain ⟨h1,h2,_⟩:=h
  have:l.any cE=true:=by rw[List.any_eq_true];exact ⟨_,List.getElem_mem h1,h2⟩
  simp[this]
theorem J3 (l:List ab):decide ((0:Int)≤lY l) =l.any cE:=by rw[Bool.eq_iff_iff,decide_eq_true_eq,QK]
theorem jM {p:Prop}(e:p:=by intro KZ hZ;simp -implicitDefEqProofs (disch:=first|omega| (simp only[go_sem,lA,lD,lT] <;>omega) |decide) only[go_sem,↓reduceIte,Nat.reduceEqDiff,reduceCtorEq,Nat.reduceLT,Nat.reduceBEq,Nat.reduceAdd,b1,hy];with_reducible exact hZ):p:=e
theorem GU {p:Prop}(e:p:=by simp -implicitDefEqProofs (disch:=first|omega| (simp only[go_sem,lA,lD,lT] <;>omega) |decide) only[go_sem,↓reduceIte,Nat.reduceEqDiff,reduceCtorEq];all_goals (first| (rw[Vv hc9 hi.2 b1] <;>rfl) | (rw[hiF] <;>rfl))):p:=e
theorem agx {gl:Nat→C}{M:Nat}{pu:Nat→List C→Option C}(hcx:CxOK (af gl M pu))(h54:∀x:ab,x.1.length< 9223372036854775808∧x.2.length< 9223372036854775808→pu 54 [.agg (eC x)] =some (.val (.bool (cE x))))(l:List ab)(hl:LB l):FC Tryd.prog gl 87 [sl eC .no l,.fn 54 []] [] (.val (.int .i64 (lY l))) []:=by
 replace hcx:=hcx.reN (M:=19)
 refine aB (cx:=af gl 19 pu) (rs:=[.tmp 4]) rfl Tryd.func87 rfl rfl rfl (by simp only[List.length_cons,List.length_nil];decide) (by simp only[go_sem]) ?_
 simp only[bq,go_sem]
 have b1:=True.intro
 have hy:=True.intro
 have hl1:=hl.1
 refine Tr.w hcx [] _ [] rfl rfl rfl ?_ jM
 refine aa fun K1 hK1=>?_
 refine Tr.w hcx [] _ [] rfl rfl rfl ?_ jM
 refine Tr.k [0,1,7,8] ?_
 refine Tr.blk ?_
 refine aN (α:=Nat) (fun a=>[(0,?v0_1),(1,?v1_1),(7,?v7_1),(8,.val (nI a))]) (fun a=>?h_1) (fun a=>a≤l.length∧(l.take a).any cE=false) (fun a=>l.length - a) (0) ⟨Nat.zero_le _,by rw[List.take_zero];rfl⟩ ?le_1 ?hh_1 ?bd_1
 case hh_1=>exact rfl
 case le_1=>exact LT
 rintro i hi
 refine Tr.w hcx [] _ [] rfl rfl rfl ?_ jM
 refine aa fun K2 hK2=>?_
 refine aq rfl (fun hc9=>?_) (fun hc9=>?_)
 ·
  have e54:=h54 (gt l i) (hl.2 i hc9)
  refine Tr.skip ?_
  refine hK2 _ ?_
  refine aa fun K3 hK3=>?_
  refine Tr.blk ?_
  refine Tr.w hcx [1000010] _ [] rfl rfl rfl ?_ jM
  by_cases b1:cE (gt l i) =true
  ·
   have e54b:=b1
   have hy:= @e54
   refine Tr.w hcx [] _ [] rfl rfl rfl ?_ jM
   refine bf rfl ?_
   have hy:=True.intro
   refine Tr.w hcx [1000017] _ [] rfl rfl rfl ?_ jM
   exact Tr.ret GU
  have e54b:=Bool.eq_false_iff.2 b1
  have hy:= @e54
  refine Tr.w hcx [] _ [] rfl rfl rfl ?_ jM
  refine bc rfl ?_
  refine Tr.skip ?_
  refine hK3 _ ?_
  have hy:=True.intro
  refine Tr.v hcx [] _ [] rfl rfl rfl ?_ jM
  exact ⟨i+1,⟨⟨by omega,by rw[zM l i hc9,hi.2,e54b];rfl⟩,O1⟩,LT,rfl⟩
 have hiF:=Vw (l:=l) (by rw[←List.take_of_length_le (show l.length≤i by omega)];exact hi.2)
 refine Tr.exit ?_
 refine hK1 _ ?_
 refine Tr.w hcx [] _ [] rfl rfl rfl ?_ jM
 exact Tr.ret GU
theorem GV {p:Prop}(e:p:=by intro KZ hZ;simp -implicitDefEqProofs (disch:=first|omega| (simp only[go_sem,lA,lD,lT] <;>omega) |decide) only[go_sem,↓reduceIte,Nat.reduceEqDiff,reduceCtorEq,Nat.reduceLT,Nat.reduceBEq,Nat.reduceAdd,e87,hy];with_reducible exact hZ):p:=e
theorem Vx {p:Prop}(e:p:=by simp -implicitDefEqProofs (disch:=first|omega| (simp only[go_sem,lA,lD,lT] <;>omega) |decide) only[go_sem,↓reduceIte,Nat.reduceEqDiff,reduceCtorEq];all_goals (exact congrArg (fun z=>some (C.val (.bool z))) (J3 l))):p:=e
theorem agy {gl:Nat→C}{M:Nat}{pu:Nat→List C→Option C}(hcx:CxOK (af gl M pu))(h87:∀l:List ab,LB l→pu 87 [sl eC .no l,.fn 54 []] =some (.val (.int .i64 (lY l))))(l:List ab)(hl:LB l):FC Tryd.prog gl 53 [sl eC .no l,.fn 54 []] [] (.val (.bool (l.any cE))) []:=by
 replace hcx:=hcx.reN (M:=9)
 refine aB (cx:=af gl 9 pu) (rs:=[.tmp 4]) rfl Tryd.func53 rfl rfl rfl (by simp only[List.length_cons,List.length_nil];decide) (by simp only[go_sem]) ?_
 simp only[bq,go_sem]
 have hy:=True.intro
 have e87:=h87 l hl
 refine Tr.w hcx [] _ [] rfl rfl rfl ?_ GV
 refine Tr.w hcx [1000008] _ [] rfl rfl rfl ?_ GV
 exact Tr.ret Vx
theorem fZ {p:Prop}(e:p:=by intro KZ hZ;simp -implicitDefEqProofs (disch:=first|omega| (simp only[go_sem,lA,lD,lT] <;>omega) |decide) only[go_sem,↓reduceIte,Nat.reduceEqDiff,reduceCtorEq,Nat.reduceLT,Nat.reduceBEq,Nat.reduceAdd,e53,b1,b2,b3,b4,hy];with_reducible exact hZ):p:=e
theorem zQ {p:Prop}(e:p:=by intro KZ hZ;simp -implicitDefEqProofs (disch:=first|omega| (simp only[go_sem,lA,lD,lT] <;>omega) |decide) only[go_sem,↓reduceIte,Nat.reduceEqDiff,reduceCtorEq,Nat.reduceLT,Nat.reduceBEq,Nat.reduceAdd,e53,b1,b2,b3,b4,hy];refine And.intro ?_ hZ;exact rfl):p:=e
theorem tM {p:Prop}(e:p:=by simp -implicitDefEqProofs (disch:=first|omega| (simp only[go_sem,lA,lD,lT] <;>omega) |decide) only[go_sem,↓reduceIte,Nat.reduceEqDiff,reduceCtorEq];all_goals (first| (rw[nB (Or.inl b1)];done) | (rw[nB (Or.inr b2)];done) | (rw[GT hno (C0 b3 b4 hc14)];done) | (rw[zO hno (zP hc14 (Or.inl hi.1) (fun _=>hi.2))];done))):p:=e
theorem agz {gl:Nat→C}{M:Nat}{pu:Nat→List C→Option C}(hcx:CxOK (af gl M pu))(h53:∀l:List ab,LB l→pu 53 [sl eC .no l,.fn 54 []] =some (.val (.bool (l.any cE))))(l:List ab)(hl:LB l):FC Tryd.prog gl 15 [sl eC .no l] [] (.val (nI (cb l))) []:=by
 replace hcx:=hcx.reN (M:=33)
 refine aB (cx:=af gl 33 pu) (rs:=[.tmp 2]) rfl Tryd.func15 rfl rfl rfl (by simp only[List.length_cons,List.length_nil];decide) (by simp only[go_sem]) ?_
 simp only[bq,go_sem]
 have b1:=True.intro
 have b2:=True.intro
 have b3:=True.intro
 have b4:=True.intro
 have hy:=True.intro
 have e53:=h53 l hl
 have hl1:=hl.1
 refine Tr.w hcx [] _ [] rfl rfl rfl ?_ fZ
 refine aa fun K1 hK1=>?_
 by_cases b1:4096< l.length
 ·
  refine Tr.w hcx [] [some 4,some 5,some 6,some 7,some 8,some 9,some 10] [] rfl rfl rfl ?_ fZ
  refine bf rfl ?_
  refine Tr.w hcx [] _ [] rfl rfl rfl ?_ fZ
  exact Tr.ret tM
 by_cases b2:l.any cE=true
 ·
  skip
  refine Tr.w hcx [] [some 4,some 5,some 6,some 7,some 8,some 9,some 10] [] rfl rfl rfl ?_ fZ
  refine bf rfl ?_
  refine Tr.w hcx [] _ [] rfl rfl rfl ?_ fZ
  exact Tr.ret tM
 have hno:¬ (4096< l.length∨l.any cE=true):=fun h=>h.elim b1 b2
 replace b2:=Bool.eq_false_iff.2 b2
 refine Tr.w hcx [] [some 4,some 5,some 6,some 7,some 8,some 9,some 10] [] rfl rfl rfl ?_ fZ
 refine bc rfl ?_
 refine Tr.skip ?_
 refine hK1 _ ?_
 refine aa fun K2 hK2=>?_
 refine Tr.w hcx [] _ [] rfl rfl rfl ?_ fZ
 refine Tr.k [0,12,13] ?_
 refine Tr.blk ?_
 refine aN (α:=Nat) (fun a=>[(0,?v0_1),(12,?v12_1),(13,.val (nI a))]) (fun a=>?h_1) (fun a=>a≤l.length∧fL l a=true) (fun a=>l.length - a) (0) ⟨Nat.zero_le _,rfl⟩ ?le_1 ?hh_1 ?bd_1
 case hh_1=>exact rfl
 case le_1=>exact LT
 rintro i hi
 refine Tr.w hcx [] _ [] rfl rfl rfl ?_ fZ
 refine aa fun K3 hK3=>?_
 refine aq rfl (fun hc14=>?_) (fun hc14=>?_)
 ·
  refine Tr.skip ?_
  refine hK3 _ ?_
  refine aa fun K4 hK4=>?_
  refine Tr.blk ?_
  refine Tr.w hcx [1000015] _ [] rfl rfl rfl ?_ fZ
  by_cases b3:0< i
  ·
   by_cases b4:bl (gt l (i - 1)).1 (gt l i).1=true
   ·
    skip
    have hb:i=0∨bl (gt l (i - 1)).1 (gt l i).1=true:=Or.inr b4
    refine Tr.wD hcx ct [] [some 16,some 17,some 18,some 19,some 20,some 21,some 22,some 23,some 24,some 25,some 26,some 27,some 28,some 29,some 30,some 31] [] rfl rfl rfl rfl ?_ zQ
    refine bc rfl ?_
    refine Tr.skip ?_
    refine hK4 _ ?_
    refine Tr.v hcx [] _ [] rfl rfl rfl ?_ fZ
    exact ⟨i+1,⟨⟨by omega,tL hi.2 hb⟩,O1⟩,LT,rfl⟩
   replace b4:=Bool.eq_false_iff.2 b4
   have hb:=True.intro
   refine Tr.wD hcx ct [] [some 16,some 17,some 18,some 19,some 20,some 21,some 22,some 23,some 24,some 25,some 26,some 27,some 28,some 29,some 30,some 31] [] rfl rfl rfl rfl ?_ zQ
   refine bf rfl ?_
   refine Tr.w hcx [] _ [] rfl rfl rfl ?_ fZ
   exact Tr.ret tM
  have hb:i=0∨bl (gt l (i - 1)).1 (gt l i).1=true:=Or.inl (by omega)
  refine Tr.wD hcx ct [] [some 16,some 17,some 18,some 19,some 20,some 21,some 22,some 23,some 24,some 25,some 26,some 27,some 28,some 29,some 30,some 31] [] rfl rfl rfl rfl ?_ zQ
  refine bc rfl ?_
  refine Tr.skip ?_
  refine hK4 _ ?_
  refine Tr.v hcx [] _ [] rfl rfl rfl ?_ fZ
  exact ⟨i+1,⟨⟨by omega,tL hi.2 hb⟩,O1⟩,LT,rfl⟩
 refine Tr.exit ?_
 refine hK2 _ ?_
 refine Tr.w hcx [] _ [] rfl rfl rfl ?_ fZ
 exact Tr.ret tM
theorem eK {p:Prop}(e:p:=by intro KZ hZ;simp -implicitDefEqProofs (disch:=first|omega| (simp only[go_sem,lA,lD,lT] <;>omega) |decide) only[go_sem,↓reduceIte,Nat.reduceEqDiff,reduceCtorEq,Nat.reduceLT,Nat.reduceBEq,Nat.reduceAdd,b3,b4,b5,hy];with_reducible exact hZ):p:=e
theorem GX {p:Prop}(e:p:=by intro KZ hZ;simp -implicitDefEqProofs (disch:=first|omega| (simp only[go_sem,lA,lD,lT] <;>omega) |decide) only[go_sem,↓reduceIte,Nat.reduceEqDiff,reduceCtorEq,Nat.reduceLT,Nat.reduceBEq,Nat.reduceAdd,b3,b4,b5,hy];refine And.intro ?_ hZ;exact rfl):p:=e
theorem px {p:Prop}(e:p:=by simp -implicitDefEqProofs (disch:=first|omega| (simp only[go_sem,lA,lD,lT] <;>omega) |decide) only[go_sem,↓reduceIte,Nat.reduceEqDiff,reduceCtorEq];all_goals (first| (rw[nB (Or.inl hc7)];done) | (rw[nB (Or.inr (zN hc11 (Vt b3)))];done) | (rw[nB (Or.inr (zN hc11 (Vu b4)))];done) | (rw[GT hno (C0 hi.1 b5 hc33)];done) | (rw[zO hno (zP hc33 hi.2.1 hi.2.2)];done))):p:=e
theorem agA {gl:Nat→C}{M:Nat}{pu:Nat→List C→Option C}(hcx:CxOK (af gl M pu))(l:List ab)(hl:LB l):FC Tryd.prog gl 16 [sl eC .no l] [] (.val (nI (cb l))) []:=by
 replace hcx:=hcx.reN (M:=48)
 refine aB (cx:=af gl 48 pu) (rs:=[.tmp 2]) rfl Tryd.func16 rfl rfl rfl (by simp only[List.length_cons,List.length_nil];decide) (by simp only[go_sem]) ?_
 simp only[bq,go_sem]
 have b3:=True.intro
 have b4:=True.intro
 have b5:=True.intro
 have hy:=True.intro
 have hl1:=hl.1
 refine Tr.w hcx [] _ [] rfl rfl rfl ?_ eK
 refine aa fun K1 hK1=>?_
 refine Tr.w hcx [] _ [] rfl rfl rfl ?_ eK
 refine aq rfl (fun hc7=>?_) (fun hc7=>?_)
 ·
  have b1:=hc7
  refine Tr.w hcx [] _ [] rfl rfl rfl ?_ eK
  exact Tr.ret px
 have b1:=hc7
 refine Tr.skip ?_
 refine hK1 _ ?_
 refine aa fun K2 hK2=>?_
 refine Tr.w hcx [] _ [] rfl rfl rfl ?_ eK
 refine Tr.k [0,3] ?_
 refine Tr.blk ?_
 refine aN (α:=Nat) (fun a=>[(0,?v0_1),(3,.val (nI a))]) (fun a=>?h_1) (fun a=>a≤l.length∧(l.take a).any cE=false) (fun a=>l.length - a) (0) ⟨Nat.zero_le _,by rw[List.take_zero];rfl⟩ ?le_1 ?hh_1 ?bd_1
 case hh_1=>exact rfl
 case le_1=>exact LT
 rintro i hi
 refine aa fun K3 hK3=>?_
 refine Tr.w hcx [] _ [] rfl rfl rfl ?_ eK
 refine aq rfl (fun hc11=>?_) (fun hc11=>?_)
 ·
  have hlb:=hl.2 i hc11
  refine Tr.skip ?_
  refine hK3 _ ?_
  refine aa fun K4 hK4=>?_
  refine Tr.blk ?_
  by_cases b3:65536< (gt l i).1.length
  ·
   refine Tr.w hcx [] [some 14,some 15,some 16,some 17,some 18,some 19,some 20,some 21,some 22,some 23,some 24,some 25,some 26,some 27,some 28,some 29] [] rfl rfl rfl ?_ eK
   refine bf rfl ?_
   refine Tr.w hcx [] _ [] rfl rfl rfl ?_ eK
   exact Tr.ret px
  by_cases b4:65536< (gt l i).2.length
  ·
   refine Tr.w hcx [] [some 14,some 15,some 16,some 17,some 18,some 19,some 20,some 21,some 22,some 23,some 24,some 25,some 26,some 27,some 28,some 29] [] rfl rfl rfl ?_ eK
   refine bf rfl ?_
   refine Tr.w hcx [] _ [] rfl rfl rfl ?_ eK
   exact Tr.ret px
  refine Tr.w hcx [] [some 14,some 15,some 16,some 17,some 18,some 19,some 20,some 21,some 22,some 23,some 24,some 25,some 26,some 27,some 28,some 29] [] rfl rfl rfl ?_ eK
  refine bc rfl ?_
  refine Tr.skip ?_
  refine hK4 _ ?_
  refine Tr.v hcx [1000013] _ [] rfl rfl rfl ?_ eK
  exact ⟨i+1,⟨⟨by omega,by rw[zM l i hc11,hi.2];simp[cE,b3,b4]⟩,O1⟩,LT,rfl⟩
 have hno:¬ (4096< l.length∨l.any cE=true):=fun h=>h.elim b1 (by rw[←List.take_of_length_le (show l.length≤i by omega),hi.2];simp)
 refine Tr.exit ?_
 refine hK2 _ ?_
 refine aa fun K5 hK5=>?_
 refine Tr.w hcx [] _ [] rfl rfl rfl ?_ eK
 refine Tr.k [0,4] ?_
 refine Tr.blk ?_
 refine aN (α:=Nat) (fun a=>[(0,?v0_2),(4,.val (nI a))]) (fun a=>?h_2) (fun a=>0< a∧(a≤l.length∨a=1)∧(a≤l.length→fL l a=true)) (fun a=>l.length - a) (1) ⟨by omega,Or.inr rfl,fun _=>rfl⟩ ?le_2 ?hh_2 ?bd_2
 case hh_2=>exact rfl
 case le_2=>exact LT
 rintro i hi
 refine aa fun K6 hK6=>?_
 refine Tr.w hcx [] _ [] rfl rfl rfl ?_ eK
 refine aq rfl (fun hc33=>?_) (fun hc33=>?_)
 ·
  refine Tr.skip ?_
  refine hK6 _ ?_
  refine aa fun K7 hK7=>?_
  refine Tr.blk ?_
  by_cases b5:bl (gt l (i - 1)).1 (gt l i).1=true
  ·
   skip
   refine Tr.wD hcx ct [] _ [] rfl rfl rfl rfl ?_ GX
   refine bc rfl ?_
   refine Tr.skip ?_
   refine hK7 _ ?_
   refine Tr.v hcx [1000035] _ [] rfl rfl rfl ?_ eK
   exact ⟨i+1,⟨⟨by omega,by omega,fun _=>tL (hi.2.2 (by omega)) (Or.inr b5)⟩,O1⟩,LT,rfl⟩
  replace b5:=Bool.eq_false_iff.2 b5
  refine Tr.wD hcx ct [] _ [] rfl rfl rfl rfl ?_ GX
  refine bf rfl ?_
  refine Tr.w hcx [] _ [] rfl rfl rfl ?_ eK
  exact Tr.ret px
 refine Tr.exit ?_
 refine hK5 _ ?_
 refine Tr.w hcx [] _ [] rfl rfl rfl ?_ eK
 exact Tr.ret px
end Go.Sx
namespace Go.Sx
open Go.RowKit Go.Proofs
set_option maxRecDepth 100000
set_option maxHeartbeats 8000000
def aG (n:Int)(m:Nat):Nat:=((if n< 0 then -(n+1) else n).tmod (m:Int)).toNat
theorem tN (n:Int)(m:Nat): (((aG n m:Nat):Int)) = (if n< 0 then -(n+1) else n).tmod (m:Int):=by
 unfold aG
 refine Int.toNat_of_nonneg (Int.tmod_nonneg _ ?_)
 split<;>omega
theorem dx (n:Int){m:Nat}(h:0< m):aG n m< m:=by
 have h1:=tN n m
 have h2:=Int.tmod_lt_of_pos (if n< 0 then -(n+1) else n) (b:=(m:Int)) (by omega)
 omega
def kI (l:List Int)(i m:Nat):Nat:=if l.length≤i then 0 else aG (gt l i) m
theorem tO (l:List Int)(i:Nat){m:Nat}(h:0< m):kI l i m< m:=by
 unfold kI;split
 . exact h
 . exact dx _ h
def LI (l:List Int):Prop:=l.length≤9223372036854775807∧∀i,i< l.length→ -9223372036854775808≤gt l i∧gt l i≤9223372036854775807
def ef (n:Nat):List UInt8:=if n % 3=0 then [UInt8.ofNat (97+n / 3)] else [UInt8.ofNat (97+n / 3),UInt8.ofNat (97+n % 3)]
def vals5:List (List UInt8):=[[],[49],[50],[97,32,98],[49,50]]
def dJ (l:List Int):Nat→List ab×Nat
 |0=>([],0)
 |i+1=>((dJ l i).1++[(ef ((dJ l i).2+kI l (2*i) 3),gt vals5 (kI l (2*i+1) 5))],(dJ l i).2+kI l (2*i) 3+1)
def ln (l:List Int):Nat:=min ((l.length+1) / 2) 11
def iZ (l:List Int):List ab:=(dJ l (ln l)).1
theorem jr (l:List Int):∀i,(dJ l i).1.length=i
 |0=>rfl
 |i+1=>by simp[dJ,jr l i]
theorem vk (l:List Int):∀i,(dJ l i).2≤3*i
 |0=>Nat.zero_le _
 |i+1=>by
  have h:=vk l i
  have h2:=tO l (2*i) (m:=3) (by omega)
  simp only[dJ];omega
theorem zS (n:Nat):1≤(ef n).length∧(ef n).length≤2:=by unfold ef;split<;>simp
def o8 (l:List ab)(n:Int):List UInt8:=
 let k:=aG n (3*l.length+5)
 if k< l.length then (gt l k).1 else if k< 2*l.length then (gt l (k - l.length)).1++[97] else if k=2*l.length then [] else ef k
theorem abP {l:List ab}{n:Int}{k:Nat}(hk:aG n (3*l.length+5) =k)(h:k< l.length):o8 l n= (gt l k).1:=by subst hk;exact if_pos h
theorem abQ {l:List ab}{n:Int}{k:Nat}(hk:aG n (3*l.length+5) =k)(h:¬k< l.length)(h2:k< 2*l.length):o8 l n= (gt l (k - l.length)).1++[97]:=by subst hk;unfold o8;simp only[];rw[if_neg h,if_pos h2]
theorem abR {l:List ab}{n:Int}{k:Nat}(hk:aG n (3*l.length+5) =k)(h2:k=2*l.length):o8 l n= []:=by subst hk;unfold o8;simp only[];rw[if_neg (by omega),if_neg (by omega),if_pos h2]
theorem abS {l:List ab}{n:Int}{k:Nat}(hk:aG n (3*l.length+5) =k)(h:¬k< l.length)(h2:¬k< 2*l.length)(h3:¬k=2*l.length):o8 l n=ef k:=by subst hk;unfold o8;simp only[];rw[if_neg h,if_neg h2,if_neg h3]
theorem l5 {x y:List UInt8}(h:x=y): (some (C.val (str x))) =some (C.val (str y)):=by rw[h]
theorem py {p:Prop}(e:p:=by intro KZ hZ;simp -implicitDefEqProofs (disch:=first|omega| (simp only[go_sem,lA,lD,lT] <;>omega) |decide) only[go_sem,↓reduceIte,Nat.reduceEqDiff,reduceCtorEq,Nat.reduceLT,Nat.reduceBEq,Nat.reduceAdd,hy];with_reducible exact hZ):p:=e
theorem G7 {p:Prop}(e:p:=by simp -implicitDefEqProofs (disch:=first|omega| (simp only[go_sem,lA,lD,lT] <;>omega) |decide) only[go_sem,↓reduceIte,Nat.reduceEqDiff,reduceCtorEq];all_goals (exact congrArg (fun z=>some (C.val (.int .i64 z))) (by rw[tN];first| (rw[if_pos (by omega)];rfl) |rw[if_neg (by omega)]))):p:=e
theorem agB {gl:Nat→C}{M:Nat}{pu:Nat→List C→Option C}(hcx:CxOK (af gl M pu))(n:Int)(m:Nat)(hn: -9223372036854775808≤n∧n≤9223372036854775807∧0< m∧m≤9223372036854775807):FC Tryd.prog gl 17 [.val (.int .i64 n),.val (nI m)] [] (.val (nI (aG n m))) []:=by
 replace hcx:=hcx.reN (M:=13)
 refine aB (cx:=af gl 13 pu) (rs:=[.tmp 4]) rfl Tryd.func17 rfl rfl rfl (by simp only[List.length_cons,List.length_nil];decide) (by simp only[go_sem]) ?_
 simp only[bq,go_sem]
 have hy:=True.intro
 refine Tr.w hcx [] _ [] rfl rfl rfl ?_ py
 refine aa fun K1 hK1=>?_
 refine Tr.w hcx [] _ [] rfl rfl rfl ?_ py
 refine aq rfl (fun hc6=>?_) (fun hc6=>?_)
 ·
  refine Tr.v hcx [1000009] _ [] rfl rfl rfl ?_ py
  refine hK1 _ ?_
  refine Tr.w hcx [1000012] _ [] rfl rfl rfl ?_ py
  exact Tr.ret G7
 refine Tr.skip ?_
 refine hK1 _ ?_
 refine Tr.w hcx [1000012] _ [] rfl rfl rfl ?_ py
 exact Tr.ret G7
theorem tP {p:Prop}(e:p:=by intro KZ hZ;simp -implicitDefEqProofs (disch:=first|omega| (simp only[go_sem,lA,lD,lT] <;>omega) |decide) only[go_sem,↓reduceIte,Nat.reduceEqDiff,reduceCtorEq,Nat.reduceLT,Nat.reduceBEq,Nat.reduceAdd,h17,Nat.not_lt_zero,hy];with_reducible exact hZ):p:=e
theorem G8 {p:Prop}(e:p:=by simp -implicitDefEqProofs (disch:=first|omega| (simp only[go_sem,lA,lD,lT] <;>omega) |decide) only[go_sem,↓reduceIte,Nat.reduceEqDiff,reduceCtorEq];all_goals (exact congrArg (fun z=>some (C.val (nI z))) (by unfold kI;first|rw[if_pos hc14] |rw[if_neg hc14]))):p:=e
theorem agC {gl:Nat→C}{M:Nat}{pu:Nat→List C→Option C}(hcx:CxOK (af gl M pu))(h17:∀ (n:Int) (m:Nat),-9223372036854775808≤n∧n≤9223372036854775807∧0< m∧m≤9223372036854775807→pu 17 [.val (.int .i64 n),.val (nI m)] =some (.val (nI (aG n m))))(l:List Int)(i m:Nat)(hl:LI l)(hi:i≤1000000)(hm:0< m∧m≤9223372036854775807):FC Tryd.prog gl 48 [sl iC .no l,.val (nI i),.val (nI m)] [] (.val (nI (kI l i m))) []:=by
 replace hcx:=hcx.reN (M:=21)
 refine aB (cx:=af gl 21 pu) (rs:=[.tmp 6]) rfl Tryd.func48 rfl rfl rfl (by simp only[List.length_cons,List.length_nil];decide) (by simp only[go_sem]) ?_
 simp only[bq,go_sem]
 have hy:=True.intro
 have hl1:=hl.1
 refine Tr.w hcx [] _ [] rfl rfl rfl ?_ tP
 refine aa fun K1 hK1=>?_
 refine Tr.w hcx [] [some 7,some 8,some 9,some 10,some 11,some 12,some 13,some 14] [] rfl rfl rfl ?_ tP
 refine aq rfl (fun hc14=>?_) (fun hc14=>?_)
 ·
  refine Tr.w hcx [] _ [] rfl rfl rfl ?_ tP
  exact Tr.ret G8
 have hb1:=hl.2 i (by omega)
 refine Tr.skip ?_
 refine hK1 _ ?_
 refine Tr.w hcx [1000020] _ [] rfl rfl rfl ?_ tP
 exact Tr.ret G8
theorem tQ {p:Prop}(e:p:=by intro KZ hZ;simp -implicitDefEqProofs (disch:=first|omega| (simp only[go_sem,lA,lD,lT] <;>omega) |decide) only[go_sem,↓reduceIte,Nat.reduceEqDiff,reduceCtorEq,Nat.reduceLT,Nat.reduceBEq,Nat.reduceAdd,hy];with_reducible exact hZ):p:=e
theorem G9 {p:Prop}(e:p:=by simp -implicitDefEqProofs (disch:=first|omega| (simp only[go_sem,lA,lD,lT] <;>omega) |decide) only[go_sem,↓reduceIte,Nat.reduceEqDiff,reduceCtorEq];all_goals (exact l5 (by unfold ef;first|rw[if_pos hc5] |rw[if_neg hc5] <;>rfl))):p:=e
theorem agD {gl:Nat→C}{M:Nat}{pu:Nat→List C→Option C}(hcx:CxOK (af gl M pu))(n:Nat)(hn:n≤1000000000000):FC Tryd.prog gl 49 [.val (nI n)] [] (.val (str (ef n))) []:=by
 replace hcx:=hcx.reN (M:=22)
 refine aB (cx:=af gl 22 pu) (rs:=[.tmp 2]) rfl Tryd.func49 rfl rfl rfl (by simp only[List.length_cons,List.length_nil];decide) (by simp only[go_sem]) ?_
 simp only[bq,go_sem]
 have hy:=True.intro
 refine Tr.w hcx [] _ [] rfl rfl rfl ?_ tQ
 refine aa fun K1 hK1=>?_
 refine Tr.w hcx [] _ [] rfl rfl rfl ?_ tQ
 refine aq rfl (fun hc5=>?_) (fun hc5=>?_)
 ·
  refine Tr.w hcx [1000011] _ [] rfl rfl rfl ?_ tQ
  exact Tr.ret G9
 refine Tr.skip ?_
 refine hK1 _ ?_
 refine Tr.w hcx [1000021] _ [] rfl rfl rfl ?_ tQ
 exact Tr.ret G9
theorem nD {p:Prop}(e:p:=by intro KZ hZ;simp -implicitDefEqProofs (disch:=first|omega| (simp only[go_sem,lA,lD,lT] <;>omega) |decide) only[go_sem,↓reduceIte,Nat.reduceEqDiff,reduceCtorEq,Nat.reduceLT,Nat.reduceBEq,Nat.reduceAdd,hy];with_reducible exact hZ):p:=e
theorem VA {p:Prop}(e:p:=by intro KZ hZ;simp -implicitDefEqProofs (disch:=first|omega| (simp only[go_sem,lA,lD,lT] <;>omega) |decide) only[go_sem,↓reduceIte,Nat.reduceEqDiff,reduceCtorEq,Nat.reduceLT,Nat.reduceBEq,Nat.reduceAdd,hy];refine And.intro ?_ hZ;exact rfl):p:=e
theorem VB {p:Prop}(e:p:=by simp -implicitDefEqProofs (disch:=first|omega| (simp only[go_sem,lA,lD,lT] <;>omega) |decide) only[go_sem,↓reduceIte,Nat.reduceEqDiff,reduceCtorEq];all_goals (rw[List.take_length])):p:=e
theorem agE {gl:Nat→C}{M:Nat}{pu:Nat→List C→Option C}(hcx:CxOK (af gl M pu))(l:List ab)(hl:l.length≤1000000):FC Tryd.prog gl 13 [sl eC .no l] [] (sl eC (.own 2) l) []:=by
 replace hcx:=hcx.reN (M:=26)
 refine aB (cx:=af gl 26 pu) (rs:=[.tmp 2]) rfl Tryd.func13 rfl rfl rfl (by simp only[List.length_cons,List.length_nil];decide) (by simp only[go_sem]) ?_
 simp only[bq,go_sem]
 have hy:=True.intro
 refine Tr.w hcx [] _ [] rfl rfl rfl ?_ nD
 refine Tr.w hcx [] _ [] rfl rfl rfl ?_ nD
 refine aa fun K1 hK1=>?_
 refine Tr.w hcx [] _ [] rfl rfl rfl ?_ nD
 refine Tr.k [0,3,4] ?_
 refine Tr.blk ?_
 refine aN (α:=Nat) (fun a=>[(0,?v0_1),(3,sl eC (.own 2) (l.take a)),(4,.val (nI a))]) (fun a=>?h_1) (fun a=>a≤l.length) (fun a=>l.length - a) (0) (Nat.zero_le _) ?le_1 ?hh_1 ?bd_1
 case hh_1=>exact rfl
 case le_1=>exact LT
 rintro i hi
 refine aa fun K2 hK2=>?_
 refine Tr.w hcx [] _ [] rfl rfl rfl ?_ nD
 refine aq rfl (fun hc8=>?_) (fun hc8=>?_)
 ·
  refine Tr.skip ?_
  refine hK2 _ ?_
  refine aa fun K3 hK3=>?_
  refine Tr.blk ?_
  refine fA hcx ct [11,1000024] _ [] rfl rfl rfl rfl ?_ VA
  refine hK3 _ ?_
  refine Tr.v hcx [1000010] _ [] rfl rfl rfl ?_ nD
  refine ⟨i+1,⟨by omega,O1⟩,?_,rfl⟩
  (simp only[aZ,aK,↓aY,↓reduceIte,Nat.reduceEqDiff,aC,aP,aD,aL,aQ,and_true,true_and];all_goals (repeat' first|exact CLe.refl _|exact True.intro| (refine an ?_;first|rfl| (simp only[List.take_zero];done)) |exact a7 (by omega) |exact ay (by omega) |exact aS (by omega) |exact aW (by omega) |with_reducible apply And.intro))
  all_goals (refine cg ?_;rw[←wy l i hc8])
 obtain rfl:i=l.length:=by omega
 refine Tr.exit ?_
 refine hK1 _ ?_
 refine Tr.w hcx [1000025] _ [] rfl rfl rfl ?_ nD
 exact Tr.ret VB
theorem nE {p:Prop}(e:p:=by intro KZ hZ;simp -implicitDefEqProofs (disch:=first|omega| (simp only[go_sem,lA,lD,lT] <;>omega) |decide) only[go_sem,↓reduceIte,Nat.reduceEqDiff,reduceCtorEq,Nat.reduceLT,Nat.reduceBEq,Nat.reduceAdd,hy];with_reducible exact hZ):p:=e
theorem VC {p:Prop}(e:p:=by intro KZ hZ;simp -implicitDefEqProofs (disch:=first|omega| (simp only[go_sem,lA,lD,lT] <;>omega) |decide) only[go_sem,↓reduceIte,Nat.reduceEqDiff,reduceCtorEq,Nat.reduceLT,Nat.reduceBEq,Nat.reduceAdd,hy];refine And.intro ?_ hZ;exact rfl):p:=e
theorem VD {p:Prop}(e:p:=by simp -implicitDefEqProofs (disch:=first|omega| (simp only[go_sem,lA,lD,lT] <;>omega) |decide) only[go_sem,↓reduceIte,Nat.reduceEqDiff,reduceCtorEq];all_goals (rw[List.take_length])):p:=e
theorem agF {gl:Nat→C}{M:Nat}{pu:Nat→List C→Option C}(hcx:CxOK (af gl M pu))(l:List ab)(hl:l.length≤1000000):FC Tryd.prog gl 18 [sl eC .no l] [] (sl eC (.own 2) l) []:=by
 replace hcx:=hcx.reN (M:=26)
 refine aB (cx:=af gl 26 pu) (rs:=[.tmp 2]) rfl Tryd.func18 rfl rfl rfl (by simp only[List.length_cons,List.length_nil];decide) (by simp only[go_sem]) ?_
 simp only[bq,go_sem]
 have hy:=True.intro
 refine Tr.w hcx [] _ [] rfl rfl rfl ?_ nE
 refine Tr.w hcx [] _ [] rfl rfl rfl ?_ nE
 refine aa fun K1 hK1=>?_
 refine Tr.w hcx [] _ [] rfl rfl rfl ?_ nE
 refine Tr.k [0,3,4] ?_
 refine Tr.blk ?_
 refine aN (α:=Nat) (fun a=>[(0,?v0_1),(3,sl eC (.own 2) (l.take a)),(4,.val (nI a))]) (fun a=>?h_1) (fun a=>a≤l.length) (fun a=>l.length - a) (0) (Nat.zero_le _) ?le_1 ?hh_1 ?bd_1
 case hh_1=>exact rfl
 case le_1=>exact LT
 rintro i hi
 refine aa fun K2 hK2=>?_
 refine Tr.w hcx [] _ [] rfl rfl rfl ?_ nE
 refine aq rfl (fun hc8=>?_) (fun hc8=>?_)
 ·
  refine Tr.skip ?_
  refine hK2 _ ?_
  refine aa fun K3 hK3=>?_
  refine Tr.blk ?_
  refine fA hcx ct [11,1000024] _ [] rfl rfl rfl rfl ?_ VC
  refine hK3 _ ?_
  refine Tr.v hcx [1000010] _ [] rfl rfl rfl ?_ nE
  refine ⟨i+1,⟨by omega,O1⟩,?_,rfl⟩
  (simp only[aZ,aK,↓aY,↓reduceIte,Nat.reduceEqDiff,aC,aP,aD,aL,aQ,and_true,true_and];all_goals (repeat' first|exact CLe.refl _|exact True.intro| (refine an ?_;first|rfl| (simp only[List.take_zero];done)) |exact a7 (by omega) |exact ay (by omega) |exact aS (by omega) |exact aW (by omega) |with_reducible apply And.intro))
  all_goals (refine cg ?_;rw[←wy l i hc8])
 obtain rfl:i=l.length:=by omega
 refine Tr.exit ?_
 refine hK1 _ ?_
 refine Tr.w hcx [1000025] _ [] rfl rfl rfl ?_ nE
 exact Tr.ret VD
end Go.Sx
namespace Go.Sx
open Go.RowKit Go.Proofs
set_option maxRecDepth 100000
set_option maxHeartbeats 8000000
def gB (l:List ab)(k:List UInt8)(i:Nat):Nat:=((l.take i).filter fun x=>bl x.1 k).length
def bg (l:List ab)(k:List UInt8):Nat:=gB l k l.length
theorem y6 {l:List ab}{k:List UInt8}{i:Nat}(h:i< l.length)(hb:bl (gt l i).1 k=true):gB l k (i+1) =gB l k i+1:=by
 unfold gB;rw[cM l i h,List.filter_append];simp[hb]
theorem y7 {l:List ab}{k:List UInt8}{i:Nat}(h:i< l.length)(hb:bl (gt l i).1 k=false):gB l k (i+1) =gB l k i:=by
 unfold gB;rw[cM l i h,List.filter_append];simp[hb]
theorem Kr (l:List ab)(k:List UInt8)(i:Nat):gB l k i≤i:=by
 unfold gB
 have h1:=List.length_filter_le (fun x:ab=>bl x.1 k) (l.take i)
 have h2:=List.length_take_le i l
 omega
def pz (l:List ab)(k:List UInt8):Option Nat:=l.findIdx? fun x=>decide (x.1=k)
def lp (l:List ab)(k:List UInt8):Int:=((pz l k).map fun n=>((n:Nat):Int)).getD (-1)
theorem adY {l:List ab}{k:List UInt8}{i:Nat}(h:i< l.length)(h0:∀j< i,(gt l j).1≠k)(hb: (gt l i).1=k):pz l k=some i:=by
 have e:∀j (hj:j< l.length),gt l j=l[j]:=fun j hj=>by simp[gt,List.getD,List.getElem?_eq_getElem hj]
 unfold pz
 rw[List.findIdx?_eq_some_iff_getElem]
 refine ⟨h,by rw[←e i h];simp[hb],fun j hj=>?_⟩
 rw[←e j (by omega)];simp[h0 j hj]
theorem adZ {l:List ab}{k:List UInt8}(h0:∀j< l.length,(gt l j).1≠k):pz l k=none:=by
 have e:∀j (hj:j< l.length),gt l j=l[j]:=fun j hj=>by simp[gt,List.getD,List.getElem?_eq_getElem hj]
 unfold pz
 rw[List.findIdx?_eq_none_iff]
 intro x hx
 obtain ⟨j,hj,rfl⟩:=List.mem_iff_getElem.1 hx
 rw[←e j hj];simp[h0 j hj]
theorem Yt {l:List ab}{k:List UInt8}{i:Nat}(h:i< l.length)(h0:∀j< i,(gt l j).1≠k)(hb: (gt l i).1=k):C.val (nI i) =C.val (.int .i64 (lp l k)):=by unfold lp;rw[adY h h0 hb];rfl
theorem Yu {l:List ab}{k:List UInt8}(h0:∀j< l.length,(gt l j).1≠k):C.val (.int .i64 (-1)) =C.val (.int .i64 (lp l k)):=by unfold lp;rw[adZ h0];rfl
theorem aiM {l:List ab}{k:List UInt8}{i:Nat}(h:∀j< i,(gt l j).1≠k)(hb:¬ (gt l i).1=k):∀j< i+1,(gt l j).1≠k:=fun j hj=>by
 by_cases e:j=i
 . rw[e];exact hb
 . exact h j (by omega)
theorem Yv {x y:ab}(h:¬x.1=y.1):¬x=y:=fun e=>h (by rw[e])
theorem Yw {x y:ab}(h:¬x.2=y.2):¬x=y:=fun e=>h (by rw[e])
theorem ad0 {x y:ab}(h:x.1=y.1)(h2:x.2=y.2):x=y:=Prod.ext h h2
theorem Yx {l:List Int}{i:Nat}(h1:2*i< l.length)(h2:i< 11):i< ln l:=by unfold ln;omega
theorem Hf {l:List Int}{i:Nat}(h:i≤ln l)(h1:¬ (2*i< l.length∧i< 11)):i=ln l:=by unfold ln at h ⊢;omega
theorem vC (l:List Int):ln l≤11:=by unfold ln;omega
theorem QV:sl sC .full ((((((List.replicate 5 ([]:List UInt8)).set 0 []).set 1 [49]).set 2 [50]).set 3 [97,32,98]).set 4 [49,50]) =sl sC .full vals5:=rfl
theorem Dd:vals5.length=5:=rfl
theorem i8 {p:Prop}(e:p:=by intro KZ hZ;simp -implicitDefEqProofs (disch:=first|omega| (simp only[go_sem,lA,lD,lT,hle] <;>omega) |decide) only[go_sem,↓reduceIte,Nat.reduceEqDiff,reduceCtorEq,Nat.reduceLT,Nat.reduceBEq,Nat.reduceAdd,b1,hy];with_reducible exact hZ):p:=e
theorem Yy {p:Prop}(e:p:=by simp -implicitDefEqProofs (disch:=first|omega| (simp only[go_sem,lA,lD,lT,hle] <;>omega) |decide) only[go_sem,↓reduceIte,Nat.reduceEqDiff,reduceCtorEq];all_goals (rfl)):p:=e
theorem aiN {gl:Nat→C}{M:Nat}{pu:Nat→List C→Option C}(hcx:CxOK (af gl M pu))(l:List ab)(k:List UInt8)(hl:l.length≤1000000):FC Tryd.prog gl 58 [sl eC .no l,.val (str k)] [] (.val (nI (bg l k))) []:=by
 replace hcx:=hcx.reN (M:=23)
 refine aB (cx:=af gl 23 pu) (rs:=[.tmp 4]) rfl Tryd.func58 rfl rfl rfl (by simp only[List.length_cons,List.length_nil];decide) (by simp only[go_sem]) ?_
 simp only[bq,go_sem]
 have b1:=True.intro
 have hy:=True.intro
 have hle:=Kr l k
 refine Tr.w hcx [] _ [] rfl rfl rfl ?_ i8
 refine Tr.w hcx [] _ [] rfl rfl rfl ?_ i8
 refine aa fun K1 hK1=>?_
 refine Tr.w hcx [] _ [] rfl rfl rfl ?_ i8
 refine Tr.k [0,1,5,6] ?_
 refine Tr.blk ?_
 refine aN (α:=Nat) (fun a=>[(0,?v0_1),(1,?v1_1),(5,.val (nI (gB l k a))),(6,.val (nI a))]) (fun a=>?h_1) (fun a=>a≤l.length) (fun a=>l.length - a) (0) (Nat.zero_le _) ?le_1 ?hh_1 ?bd_1
 case hh_1=>exact rfl
 case le_1=>exact LT
 rintro i hi
 refine aa fun K2 hK2=>?_
 refine Tr.w hcx [] _ [] rfl rfl rfl ?_ i8
 refine aq rfl (fun hc10=>?_) (fun hc10=>?_)
 ·
  have hli:=hle i
  refine Tr.skip ?_
  refine hK2 _ ?_
  refine aa fun K3 hK3=>?_
  refine Tr.blk ?_
  by_cases b1:bl (gt l i).1 k=true
  ·
   have hb:=b1
   refine Tr.w hcx [] _ [] rfl rfl rfl ?_ i8
   refine bf rfl ?_
   refine Tr.v hcx [1000021] _ [] rfl rfl rfl ?_ i8
   refine hK3 _ ?_
   refine Tr.v hcx [1000012] _ [] rfl rfl rfl ?_ i8
   refine ⟨i+1,⟨by omega,O1⟩,?_,rfl⟩
   (simp only[aZ,aK,↓aY,↓reduceIte,Nat.reduceEqDiff,aC,aP,aD,aL,aQ,and_true,true_and];all_goals (repeat' first|exact CLe.refl _|exact True.intro| (refine an ?_;first|rfl| (simp only[List.take_zero];done)) |exact a7 (by omega) |exact ay (by omega) |exact aS (by omega) |exact aW (by omega) |with_reducible apply And.intro))
   all_goals (refine a7 ?_;first| (rw[y6 hc10 hb];done) | (rw[y7 hc10 hb];done))
  replace b1:=Bool.eq_false_iff.2 b1
  have hb:=b1
  refine Tr.w hcx [] _ [] rfl rfl rfl ?_ i8
  refine bc rfl ?_
  refine Tr.skip ?_
  refine hK3 _ ?_
  refine Tr.v hcx [1000012] _ [] rfl rfl rfl ?_ i8
  refine ⟨i+1,⟨by omega,O1⟩,?_,rfl⟩
  (simp only[aZ,aK,↓aY,↓reduceIte,Nat.reduceEqDiff,aC,aP,aD,aL,aQ,and_true,true_and];all_goals (repeat' first|exact CLe.refl _|exact True.intro| (refine an ?_;first|rfl| (simp only[List.take_zero];done)) |exact a7 (by omega) |exact ay (by omega) |exact aS (by omega) |exact aW (by omega) |with_reducible apply And.intro))
  all_goals (refine a7 ?_;first| (rw[y6 hc10 hb];done) | (rw[y7 hc10 hb];done))
 obtain rfl:i=l.length:=by omega
 refine Tr.exit ?_
 refine hK1 _ ?_
 refine Tr.w hcx [1000022] _ [] rfl rfl rfl ?_ i8
 exact Tr.ret Yy
theorem l7 {p:Prop}(e:p:=by intro KZ hZ;simp -implicitDefEqProofs (disch:=first|omega| (simp only[go_sem,lA,lD,lT] <;>omega) |decide) only[go_sem,↓reduceIte,Nat.reduceEqDiff,reduceCtorEq,Nat.reduceLT,Nat.reduceBEq,Nat.reduceAdd,hy];with_reducible exact hZ):p:=e
theorem Hg {p:Prop}(e:p:=by simp -implicitDefEqProofs (disch:=first|omega| (simp only[go_sem,lA,lD,lT] <;>omega) |decide) only[go_sem,↓reduceIte,Nat.reduceEqDiff,reduceCtorEq];all_goals (first|exact congrArg some (Yt hc9 hi.2 hc18) |exact congrArg some (Yu fun j hj=>hi.2 j (by omega)))):p:=e
theorem aiO {gl:Nat→C}{M:Nat}{pu:Nat→List C→Option C}(hcx:CxOK (af gl M pu))(l:List ab)(k:List UInt8)(hl:l.length≤1000000):FC Tryd.prog gl 35 [sl eC .no l,.val (str k)] [] (.val (.int .i64 (lp l k))) []:=by
 replace hcx:=hcx.reN (M:=20)
 refine aB (cx:=af gl 20 pu) (rs:=[.tmp 4]) rfl Tryd.func35 rfl rfl rfl (by simp only[List.length_cons,List.length_nil];decide) (by simp only[go_sem]) ?_
 simp only[bq,go_sem]
 have hy:=True.intro
 refine Tr.w hcx [] _ [] rfl rfl rfl ?_ l7
 refine aa fun K1 hK1=>?_
 refine Tr.w hcx [] _ [] rfl rfl rfl ?_ l7
 refine Tr.k [0,1,5] ?_
 refine Tr.blk ?_
 refine aN (α:=Nat) (fun a=>[(0,?v0_1),(1,?v1_1),(5,.val (nI a))]) (fun a=>?h_1) (fun a=>a≤l.length∧∀j< a,(gt l j).1≠k) (fun a=>l.length - a) (0) ⟨Nat.zero_le _,fun j hj=>absurd hj (Nat.not_lt_zero j)⟩ ?le_1 ?hh_1 ?bd_1
 case hh_1=>exact rfl
 case le_1=>exact LT
 rintro i hi
 refine aa fun K2 hK2=>?_
 refine Tr.w hcx [] _ [] rfl rfl rfl ?_ l7
 refine aq rfl (fun hc9=>?_) (fun hc9=>?_)
 ·
  refine Tr.skip ?_
  refine hK2 _ ?_
  refine aa fun K3 hK3=>?_
  refine Tr.blk ?_
  refine Tr.w hcx [] _ [] rfl rfl rfl ?_ l7
  refine aq rfl (fun hc18=>?_) (fun hc18=>?_)
  ·
   refine Tr.w hcx [1000019] _ [] rfl rfl rfl ?_ l7
   exact Tr.ret Hg
  refine Tr.skip ?_
  refine hK3 _ ?_
  refine Tr.v hcx [1000011] _ [] rfl rfl rfl ?_ l7
  exact ⟨i+1,⟨⟨by omega,aiM hi.2 hc18⟩,O1⟩,LT,rfl⟩
 refine Tr.exit ?_
 refine hK1 _ ?_
 refine Tr.w hcx [] _ [] rfl rfl rfl ?_ l7
 exact Tr.ret Hg
theorem jO {p:Prop}(e:p:=by intro KZ hZ;simp -implicitDefEqProofs (disch:=first|omega| (simp only[go_sem,lA,lD,lT] <;>omega) |decide) only[go_sem,↓reduceIte,Nat.reduceEqDiff,reduceCtorEq,Nat.reduceLT,Nat.reduceBEq,Nat.reduceAdd,eq_self,decide_true,decide_false,not_true_eq_false,not_false_eq_true,b1,b2,hy];with_reducible exact hZ):p:=e
theorem A8 {p:Prop}(e:p:=by intro KZ hZ;simp -implicitDefEqProofs (disch:=first|omega| (simp only[go_sem,lA,lD,lT] <;>omega) |decide) only[go_sem,↓reduceIte,Nat.reduceEqDiff,reduceCtorEq,Nat.reduceLT,Nat.reduceBEq,Nat.reduceAdd,eq_self,decide_true,decide_false,not_true_eq_false,not_false_eq_true,b1,b2,hy];with_reducible refine And.intro ?_ hZ;first|exact rfl|decide):p:=e
theorem t4 {p:Prop}(e:p:=by simp -implicitDefEqProofs (disch:=first|omega| (simp only[go_sem,lA,lD,lT] <;>omega) |decide) only[go_sem,↓reduceIte,Nat.reduceEqDiff,reduceCtorEq];all_goals (first| (rw[wp hc10];done) | (rw[uT (i:=i) (Yv b1)];done) | (rw[uT (i:=i) (Yw b2)];done) | (rw[Cq hc14 hq hi.2];done))):p:=e
theorem aiP {gl:Nat→C}{M:Nat}{pu:Nat→List C→Option C}(hcx:CxOK (af gl M pu))(x y:List ab)(hx:x.length≤1000000)(hy0:y.length≤1000000):FC Tryd.prog gl 34 [sl eC .no x,sl eC .no y] [] (.val (.bool (decide (x=y)))) []:=by
 replace hcx:=hcx.reN (M:=41)
 refine aB (cx:=af gl 41 pu) (rs:=[.tmp 4]) rfl Tryd.func34 rfl rfl rfl (by simp only[List.length_cons,List.length_nil];decide) (by simp only[go_sem]) ?_
 simp only[bq,go_sem]
 have b1:=True.intro
 have b2:=True.intro
 have hy:=True.intro
 refine Tr.w hcx [] _ [] rfl rfl rfl ?_ jO
 refine aa fun K1 hK1=>?_
 refine Tr.w hcx [] _ [] rfl rfl rfl ?_ jO
 refine aq rfl (fun hc10=>?_) (fun hc10=>?_)
 ·
  refine Tr.w hcx [] _ [] rfl rfl rfl ?_ jO
  exact Tr.ret t4
 have hq:x.length=y.length:=by omega
 refine Tr.skip ?_
 refine hK1 _ ?_
 refine aa fun K2 hK2=>?_
 refine Tr.w hcx [] _ [] rfl rfl rfl ?_ jO
 refine Tr.k [0,1,5] ?_
 refine Tr.blk ?_
 refine aN (α:=Nat) (fun a=>[(0,?v0_1),(1,?v1_1),(5,.val (nI a))]) (fun a=>?h_1) (fun a=>a≤x.length∧x.take a=y.take a) (fun a=>x.length - a) (0) ⟨Nat.zero_le _,rfl⟩ ?le_1 ?hh_1 ?bd_1
 case hh_1=>exact rfl
 case le_1=>exact LT
 rintro i hi
 refine aa fun K3 hK3=>?_
 refine Tr.w hcx [] _ [] rfl rfl rfl ?_ jO
 refine aq rfl (fun hc14=>?_) (fun hc14=>?_)
 ·
  refine Tr.skip ?_
  refine hK3 _ ?_
  refine Tr.k [0,1,5] ?_
  refine aa fun K4 hK4=>?_
  refine Tr.blk ?_
  by_cases b1: (gt x i).1= (gt y i).1
  ·
   by_cases b2: (gt x i).2= (gt y i).2
   ·
    refine Tr.wD hcx ct [] [some 17,some 18,some 19,some 20,some 21,some 22,some 23,some 24,some 25,some 26,some 27,some 28,some 29,some 30,some 31,some 32,some 33,some 34,some 35,some 36,some 37,some 38,some 39,some 40] [] rfl rfl rfl rfl ?_ A8
    refine Tr.k [0,1,5,40] ?_
    refine bc rfl ?_
    refine Tr.skip ?_
    refine hK4 _ ?_
    refine Tr.v hcx [1000016] _ [] rfl rfl rfl ?_ jO
    exact ⟨i+1,⟨⟨by omega,o5 hc14 hq hi.2 (ad0 b1 b2)⟩,O1⟩,LT,rfl⟩
   refine Tr.wD hcx ct [] [some 17,some 18,some 19,some 20,some 21,some 22,some 23,some 24,some 25,some 26,some 27,some 28,some 29,some 30,some 31,some 32,some 33,some 34,some 35,some 36,some 37,some 38,some 39,some 40] [] rfl rfl rfl rfl ?_ A8
   refine Tr.k [0,1,5,40] ?_
   refine bf rfl ?_
   refine Tr.w hcx [] _ [] rfl rfl rfl ?_ jO
   exact Tr.ret t4
  refine Tr.wD hcx ct [] [some 17,some 18,some 19,some 20,some 21,some 22,some 23,some 24,some 25,some 26,some 27,some 28,some 29,some 30,some 31,some 32,some 33,some 34,some 35,some 36,some 37,some 38,some 39,some 40] [] rfl rfl rfl rfl ?_ A8
  refine Tr.k [0,1,5,40] ?_
  refine bf rfl ?_
  refine Tr.w hcx [] _ [] rfl rfl rfl ?_ jO
  exact Tr.ret t4
 refine Tr.exit ?_
 refine hK2 _ ?_
 refine Tr.w hcx [] _ [] rfl rfl rfl ?_ jO
 exact Tr.ret t4
theorem jP {p:Prop}(e:p:=by intro KZ hZ;simp -implicitDefEqProofs (disch:=first|omega| (simp only[go_sem,lA,lD,lT] <;>omega) |decide) only[go_sem,↓reduceIte,Nat.reduceEqDiff,reduceCtorEq,Nat.reduceLT,Nat.reduceBEq,Nat.reduceAdd,e17,hy];with_reducible exact hZ):p:=e
theorem t5 {p:Prop}(e:p:=by simp -implicitDefEqProofs (disch:=first|omega| (simp only[go_sem,lA,lD,lT] <;>omega) |decide) only[go_sem,↓reduceIte,Nat.reduceEqDiff,reduceCtorEq];all_goals (first|exact l5 (abP hk0 hc15).symm|exact l5 (abQ hk0 hc15 hc25).symm|exact l5 (abR hk0 hc39).symm|exact l5 (abS hk0 hc15 hc25 hc39).symm)):p:=e
theorem aiQ {gl:Nat→C}{M:Nat}{pu:Nat→List C→Option C}(hcx:CxOK (af gl M pu))(h17:∀ (n:Int) (m:Nat),-9223372036854775808≤n∧n≤9223372036854775807∧0< m∧m≤9223372036854775807→pu 17 [.val (.int .i64 n),.val (nI m)] =some (.val (nI (aG n m))))(h49:∀n:Nat,n≤1000000000000→pu 49 [.val (nI n)] =some (.val (str (ef n))))(l:List ab)(n:Int)(hl:l.length≤1000000)(hk:∀i,i< l.length→(gt l i).1.length< 1000000)(hn: -9223372036854775808≤n∧n≤9223372036854775807):FC Tryd.prog gl 20 [sl eC .no l,.val (.int .i64 n)] [] (.val (str (o8 l n))) []:=by
 replace hcx:=hcx.reN (M:=42)
 refine aB (cx:=af gl 42 pu) (rs:=[.tmp 4]) rfl Tryd.func20 rfl rfl rfl (by simp only[List.length_cons,List.length_nil];decide) (by simp only[go_sem]) ?_
 simp only[bq,go_sem]
 have hy:=True.intro
 have e17:pu 17 [.val (.int .i64 n),.val (nI (3*l.length+5))] =some (.val (nI (aG n (3*l.length+5)))):=h17 n _ ⟨hn.1,hn.2,by omega,by omega⟩
 have hlt:=dx n (m:=3*l.length+5) (by omega)
 obtain ⟨k,hk0⟩:∃k,aG n (3*l.length+5) =k:=⟨_,rfl⟩
 rw[hk0] at e17 hlt
 refine Tr.w hcx [] _ [] rfl rfl rfl ?_ jP
 refine Tr.w hcx [1000011] _ [] rfl rfl rfl ?_ jP
 refine aa fun K1 hK1=>?_
 refine Tr.w hcx [] _ [] rfl rfl rfl ?_ jP
 refine aq rfl (fun hc15=>?_) (fun hc15=>?_)
 ·
  refine Tr.w hcx [1000020] _ [] rfl rfl rfl ?_ jP
  exact Tr.ret t5
 refine Tr.skip ?_
 refine hK1 _ ?_
 refine aa fun K2 hK2=>?_
 refine Tr.w hcx [] _ [] rfl rfl rfl ?_ jP
 refine aq rfl (fun hc25=>?_) (fun hc25=>?_)
 ·
  have hkk:=hk (k - l.length) (by omega)
  refine Tr.w hcx [1000034] _ [] rfl rfl rfl ?_ jP
  refine Tr.k [4] ?_
  exact Tr.ret t5
 refine Tr.skip ?_
 refine hK2 _ ?_
 refine aa fun K3 hK3=>?_
 refine Tr.w hcx [] _ [] rfl rfl rfl ?_ jP
 refine aq rfl (fun hc39=>?_) (fun hc39=>?_)
 ·
  refine Tr.w hcx [] _ [] rfl rfl rfl ?_ jP
  exact Tr.ret t5
 refine Tr.skip ?_
 refine hK3 _ ?_
 refine Tr.k [5] ?_
 have e49:=h49 k (by omega)
 have hy:= @e49
 refine Tr.w hcx [1000041] _ [] rfl rfl rfl ?_ jP
 exact Tr.ret t5
theorem gM {p:Prop}(e:p:=by intro KZ hZ;simp -implicitDefEqProofs (disch:=first|omega| (simp only[go_sem,lA,lD,lT,jr,Dd] <;>omega) |decide) only[go_sem,↓reduceIte,Nat.reduceEqDiff,reduceCtorEq,Nat.reduceLT,Nat.reduceBEq,Nat.reduceAdd,b1,b2,hy];with_reducible exact hZ):p:=e
theorem Hh {p:Prop}(e:p:=by simp -implicitDefEqProofs (disch:=first|omega| (simp only[go_sem,lA,lD,lT,jr,Dd] <;>omega) |decide) only[go_sem,↓reduceIte,Nat.reduceEqDiff,reduceCtorEq];all_goals (rw[iZ,←hiE])):p:=e
theorem aiR {gl:Nat→C}{M:Nat}{pu:Nat→List C→Option C}(hcx:CxOK (af gl M pu))(h48:∀ (l:List Int) (i m:Nat),LI l→i≤1000000→0< m∧m≤9223372036854775807→pu 48 [sl iC .no l,.val (nI i),.val (nI m)] =some (.val (nI (kI l i m))))(h49:∀n:Nat,n≤1000000000000→pu 49 [.val (nI n)] =some (.val (str (ef n))))(l:List Int)(hl:LI l):FC Tryd.prog gl 10 [sl iC .no l] [] (sl eC (.own 2) (iZ l)) []:=by
 replace hcx:=hcx.reN (M:=39)
 refine aB (cx:=af gl 39 pu) (rs:=[.tmp 2]) rfl Tryd.func10 rfl rfl rfl (by simp only[List.length_cons,List.length_nil];decide) (by simp only[go_sem]) ?_
 simp only[bq,go_sem]
 have b1:=True.intro
 have b2:=True.intro
 have hy:=True.intro
 have hl1:=hl.1
 have hN:=vC l
 refine Tr.w hcx [] _ [] rfl rfl rfl ?_ gM
 refine Tr.w hcx [] _ [] rfl rfl rfl ?_ gM
 refine Tr.w hcx [] _ [] rfl rfl rfl ?_ gM
 refine aa fun K1 hK1=>?_
 refine Tr.w hcx [] _ [] rfl rfl rfl ?_ gM
 refine Tr.k [0,3,4,5] ?_
 refine Tr.blk ?_
 refine aN (α:=Nat) (fun a=>[(0,?v0_1),(3,sl eC (.own 2) (dJ l a).1),(4,.val (.int .i64 (((dJ l a).2:Int) - 1))),(5,.val (nI a))]) (fun a=>?h_1) (fun a=>a≤ln l) (fun a=>ln l - a) (0) (Nat.zero_le _) ?le_1 ?hh_1 ?bd_1
 case hh_1=>exact rfl
 case le_1=>(simp only[aZ,aK,↓aY,↓reduceIte,Nat.reduceEqDiff,aC,aP,aD,aL,aQ,and_true,true_and];all_goals (repeat' first|exact CLe.refl _|exact True.intro| (refine an ?_;first|rfl| (simp only[List.take_zero];done)) |exact a7 (by omega) |exact ay (by omega) |exact aS (by omega) |exact aW (by omega) |with_reducible apply And.intro));all_goals exact ay (by simp[dJ])
 rintro i hi
 refine aa fun K2 hK2=>?_
 by_cases b1:2*i< l.length
 ·
  by_cases b2:i< 11
  ·
   have hiN:=Yx b1 b2
   refine Tr.w hcx [] [some 6,some 7,some 8,some 9,some 10,some 11,some 12,some 13,some 14] [] rfl rfl rfl ?_ gM
   refine bf rfl ?_
   refine Tr.skip ?_
   refine hK2 _ ?_
   refine aa fun K3 hK3=>?_
   refine Tr.blk ?_
   have e48:=h48 l (2*i) 3 hl (by omega) (by omega)
   have e48b:=h48 l (2*i+1) 5 hl (by omega) (by omega)
   have hat:=vk l i
   have ha3:=tO l (2*i) (m:=3) (by omega)
   have ha5:=tO l (2*i+1) (m:=5) (by omega)
   have e49:pu 49 [.val (.int .i64 (((dJ l i).2:Int) - 1+((1:Nat):Int)+((kI l (2*i) 3:Nat):Int)))] =some (.val (str (ef ((dJ l i).2+kI l (2*i) 3)))):=by
    rw[show (((dJ l i).2:Int) - 1+((1:Nat):Int)+((kI l (2*i) 3:Nat):Int)) = (((dJ l i).2+kI l (2*i) 3:Nat):Int) by omega]
    exact h49 _ (by omega)
   have hy:= @e48
   refine Tr.w hcx [1000023] _ [] rfl rfl rfl ?_ gM
   refine Tr.k [0,3,4,5] ?_
   have hy:=And.intro @e49 (And.intro @e48b @QV)
   refine Tr.v hcx [24,1000037] _ [] rfl rfl rfl ?_ gM
   refine hK3 _ ?_
   have hy:=True.intro
   refine Tr.v hcx [1000016] _ [] rfl rfl rfl ?_ gM
   refine ⟨i+1,⟨by omega,O1⟩,?_,rfl⟩
   (simp only[aZ,aK,↓aY,↓reduceIte,Nat.reduceEqDiff,aC,aP,aD,aL,aQ,and_true,true_and];all_goals (repeat' first|exact CLe.refl _|exact True.intro| (refine an ?_;first|rfl| (simp only[List.take_zero];done)) |exact a7 (by omega) |exact ay (by omega) |exact aS (by omega) |exact aW (by omega) |with_reducible apply And.intro))
   all_goals first| (refine cg ?_;rfl) | (refine ay ?_;simp only[dJ];omega)
  skip
  refine Tr.w hcx [] [some 6,some 7,some 8,some 9,some 10,some 11,some 12,some 13,some 14] [] rfl rfl rfl ?_ gM
  refine bc rfl ?_
  refine Tr.exit ?_
  refine hK1 _ ?_
  have hiE:=Hf hi (by omega)
  refine Tr.w hcx [1000038] _ [] rfl rfl rfl ?_ gM
  exact Tr.ret Hh
 refine Tr.w hcx [] [some 6,some 7,some 8,some 9,some 10,some 11,some 12,some 13,some 14] [] rfl rfl rfl ?_ gM
 refine bc rfl ?_
 refine Tr.exit ?_
 refine hK1 _ ?_
 have hiE:=Hf hi (by omega)
 refine Tr.w hcx [1000038] _ [] rfl rfl rfl ?_ gM
 exact Tr.ret Hh
end Go.Sx
