/-
   And what follows.
-/
import Derived.Test.YtcpdlhgkdogdjaaDoorPas
import Derived.Test.YtcpdlhgkdogdjaaDoorPao
import Derived.Test.YtcpdlhgkdogdjaaDoorPaq
import Derived.Test.YtcpdlhgkdogdjaaDoorPap
import Derived.Test.YtcpdlhgkdogdjaaDoorPan
set_option linter.unusedSimpArgs false
set_option linter.unusedVariables false
namespace Go.Sx
open Go.RowKit Go.Proofs
theorem Zv {gl:Nat→C}{M:Nat}{pu:Nat→List C→Option C}(hcx:CxOK (ax gl M pu))(h19:∀ (n:Int) (m:Nat),-9223372036854775808≤n∧n≤9223372036854775807∧0< m∧m≤9223372036854775807→pu 19 [.val (.int .i64 n),.val (nI m)] =some (.val (nI (ag n m))))(h21:∀ (l:List Int) (k:Nat) (id:ID),LI l→k≤900→pu 21 [sl iC .no l,.val (nI k),.agg (iD id)] =some (.agg (pC (eI l k id))))(h33:∀ (w:ah) (id:ID),WB w→pu 33 [.agg [sl vC .no w],.agg (iD id)] =some (.tup [.agg [.val (nI (dj w id).1.1),.val (nI (dj w id).1.2.1),.val (nI (dj w id).1.2.2)],.val (.bool (dj w id).2)]))(w:ah)(how y:Int)(hw:WG w)(hho: -9223372036854775808≤how∧how≤9223372036854775807)(hy0: -9223372036854775808≤y∧y≤9223372036854775807):FC Tryd.prog gl 51 [.agg [sl vC .no w],.val (.int .i64 how),.val (.int .i64 y)] [] (.agg [sl vC .no (cR w how y)]) []:=by
 exact ada hcx h19 h21 h33 w how y hw hho hy0
set_option maxRecDepth 100000
set_option maxHeartbeats 8000000
section
variable {gl:Nat→C} {M:Nat} {pu:Nat→List C→Option C}
theorem adh {gl:Nat→C}{M:Nat}{pu:Nat→List C→Option C}(hcx:CxOK (ax gl M pu))(n:Int)(hn: -9223372036854775808≤n∧n≤9223372036854775807):FC Tryd.prog gl 49 [.val (.int .i64 n)] [] (sl bC (.own 1) (bu n)) []:=by
 by_cases h:0≤n
 . obtain ⟨m,rfl⟩:∃m:Nat,n= (m:Int):=⟨n.toNat,by omega⟩
   rw[wint_pos];exact XF hcx m (by omega)
 . obtain ⟨m,rfl⟩:∃m:Nat,n= -1 - (m:Int):=⟨(-1 - n).toNat,by omega⟩
   rw[oI m (fu 8 m (by omega))];exact XG hcx m (by omega)
theorem adi {gl:Nat→C}{M:Nat}{pu:Nat→List C→Option C}(hcx:CxOK (ax gl M pu))(n:Int)(hn: -9223372036854775808≤n∧n≤9223372036854775807):FC Tryd.prog gl 84 [.val (.int .i64 n)] [] (sl bC (.own 1) (bu n)) []:=by
 by_cases h:0≤n
 . obtain ⟨m,rfl⟩:∃m:Nat,n= (m:Int):=⟨n.toNat,by omega⟩
   rw[wint_pos];exact XH hcx m (by omega)
 . obtain ⟨m,rfl⟩:∃m:Nat,n= -1 - (m:Int):=⟨(-1 - n).toNat,by omega⟩
   rw[oI m (fu 8 m (by omega))];exact XI hcx m (by omega)
end
def gW (l:List ID):List Int:=l.flatMap fun x=>[x.1,x.2.1,x.2.2]
def gX (p:aI):List UInt8:=eQ [p.1.1,p.1.2.1,p.1.2.2,p.2.1,p.2.2.1]++wb p.2.2.2.1++eQ (gW p.2.2.2.2)
def jz (A:dG):List UInt8:=wb A.1++bu A.2.length++A.2.flatMap gX
def iM (V:bE):List UInt8:=bu V.length++V.flatMap jz
def eJ (w:ah):List UInt8:=bu w.length++w.flatMap iM
theorem gJ (l:List ID): (gW l).length=3*l.length:=by
 unfold gW
 induction l with
 |nil=>rfl
 |cons x l ih=>rw[List.flatMap_cons,List.length_append,ih];simp only[List.length_cons,List.length_nil];omega
theorem tT {α β:Type}[Inhabited α](f:α→List β)(l:List α)(i:Nat)(h:i< l.length): (l.take (i+1)).flatMap f= (l.take i).flatMap f++f (gt l i):=(qS f l i h).symm
theorem FV (l:List ID)(i:Nat)(h:i< l.length):gW (l.take i)++[(gt l i).1,(gt l i).2.1,(gt l i).2.2] =gW (l.take (i+1)):=(tT _ l i h).symm
theorem yQ {α β:Type}(f:α→List β)(l:List α)(i:Nat): ((l.take i).flatMap f).length≤(l.flatMap f).length:=by
 conv=>rhs;rw[←List.take_append_drop i l]
 rw[List.flatMap_append,List.length_append];omega
def PI (p:aI):Prop:=(cz p.1∧nj p.2.1∧nj p.2.2.1)∧∀x,x∈p.2.2.2.2→cz x
theorem PI.hd {p:aI}(h:PI p):∀x∈ [p.1.1,p.1.2.1,p.1.2.2,p.2.1,p.2.2.1],-9223372036854775808≤x∧x≤9223372036854775807:=by
 intro x hx;obtain ⟨⟨⟨a,b,c⟩,d,e⟩,_⟩:=h;simp only[List.mem_cons,List.not_mem_nil,or_false] at hx;rcases hx with rfl|rfl|rfl|rfl|rfl
 . exact a
 . exact b
 . exact c
 . exact d
 . exact e
theorem qY {l:List ID}(h:∀x,x∈l→cz x):∀x∈gW l,-9223372036854775808≤x∧x≤9223372036854775807:=by
 intro x hx;unfold gW at hx;obtain ⟨y,hy,hx⟩:=List.mem_flatMap.1 hx;obtain ⟨a,b,c⟩:=h y hy;simp only[List.mem_cons,List.not_mem_nil,or_false] at hx;rcases hx with rfl|rfl|rfl
 . exact a
 . exact b
 . exact c
theorem pt (l:List Int)(hr:∀x∈l,-9223372036854775808≤x∧x≤9223372036854775807)(hl:l.length< 1099511627776): (eQ l).length≤9+9*l.length:=by
 unfold eQ;rw[List.length_append];have h1:=qT l hr l.length (Nat.le_refl _);have h2:=gy l.length (by omega);rw[List.take_length] at h1;omega
theorem ov (s:List UInt8)(h:s.length< 1099511627776): (wb s).length≤9+s.length:=by
 unfold wb;rw[List.length_append];have:=gy s.length (by omega);omega
def PE (p:aI):Prop:=p.2.2.2.1.length≤1000000∧p.2.2.2.2.length≤1000000
theorem u7 {p:aI}(h:PI p)(h2:PE p): (gX p).length≤30000000:=by
 unfold gX;rw[List.length_append,List.length_append];have q1:=pt _ h.hd (by show 5< _;decide);have q2:=ov p.2.2.2.1 (by have:=h2.1;omega);have q3:=pt (gW p.2.2.2.2) (qY h.2) (by rw[gJ];have:=h2.2;omega);rw[gJ] at q3;have:=h2.1;have:=h2.2;simp only[List.length_cons,List.length_nil] at q1;omega
def ng (w:ah)(i:Nat):List UInt8:=bu w.length++(w.take i).flatMap iM
def nh (E:List UInt8)(V:bE)(i:Nat):List UInt8:=E++(bu V.length++(V.take i).flatMap jz)
def ow (E:List UInt8)(A:dG)(i:Nat):List UInt8:=E++(wb A.1++bu A.2.length++(A.2.take i).flatMap gX)
theorem LC (w:ah):bu w.length=ng w 0:=by unfold ng;rw[List.take_zero];simp
theorem LD (E:List UInt8)(V:bE):E++bu V.length=nh E V 0:=by unfold nh;rw[List.take_zero];simp
theorem LE (E:List UInt8)(A:dG):E++wb A.1++bu A.2.length=ow E A 0:=by unfold ow;rw[List.take_zero];simp
theorem Ci (E:List UInt8)(A:dG)(i:Nat)(h:i< A.2.length):ow E A i++gX (gt A.2 i) =ow E A (i+1):=by unfold ow;rw[tT gX _ _ h];simp only[List.append_assoc]
theorem LF (E:List UInt8)(A:dG):ow E A A.2.length=E++jz A:=by unfold ow jz;rw[List.take_length]
theorem Cj (E:List UInt8)(V:bE)(i:Nat)(h:i< V.length):nh E V i++jz (gt V i) =nh E V (i+1):=by unfold nh;rw[tT jz _ _ h];simp only[List.append_assoc]
theorem LG (E:List UInt8)(V:bE):nh E V V.length=E++iM V:=by unfold nh iM;rw[List.take_length]
theorem Ck (w:ah)(i:Nat)(h:i< w.length):ng w i++iM (gt w i) =ng w (i+1):=by unfold ng;rw[tT iM _ _ h];simp only[List.append_assoc]
theorem LH (w:ah):ng w w.length=eJ w:=by unfold ng eJ;rw[List.take_length]
theorem Wx (E:List UInt8)(p:aI):E++eQ [p.1.1,p.1.2.1,p.1.2.2,p.2.1,p.2.2.1]++wb p.2.2.2.1++eQ (gW p.2.2.2.2) =E++gX p:=by unfold gX;simp only[List.append_assoc]
theorem Wy (w:ah)(i:Nat): (ng w i).length≤(eJ w).length:=by
 unfold ng eJ;rw[List.length_append,List.length_append]
 have:=yQ iM w i;omega
theorem Wz (E:List UInt8)(V:bE)(i:Nat): (nh E V i).length≤E.length+(iM V).length:=by
 unfold nh iM;rw[List.length_append,List.length_append,List.length_append]
 have:=yQ jz V i;omega
theorem WA (E:List UInt8)(A:dG)(i:Nat): (ow E A i).length≤E.length+(jz A).length:=by
 unfold ow jz;simp only[List.length_append]
 have:=yQ gX A.2 i;omega
theorem AC (w:ah)(i:Nat)(h:i< w.length): (ng w i).length+(iM (gt w i)).length≤(eJ w).length:=by
 have:=Wy w (i+1);rw[←Ck w i h,List.length_append] at this;exact this
theorem AD (E:List UInt8)(V:bE)(i:Nat)(h:i< V.length): (nh E V i).length+(jz (gt V i)).length≤E.length+(iM V).length:=by
 have:=Wz E V (i+1);rw[←Cj E V i h,List.length_append] at this;exact this
theorem AE (E:List UInt8)(A:dG)(i:Nat)(h:i< A.2.length): (ow E A i).length+(gX (gt A.2 i)).length≤E.length+(jz A).length:=by
 have:=WA E A (i+1);rw[←Ci E A i h,List.length_append] at this;exact this
theorem PT (x y z:Int):cO 3 (cl iC ((List.map Int.ofNat (List.replicate 3 0)).set 0 x)) [(1,.val (.int .i64 y)),(2,.val (.int .i64 z))] =some (vp (sl iC .full [x,y,z])):=rfl
theorem PU (x y z u v:Int):cO 5 (cl iC ((List.map Int.ofNat (List.replicate 5 0)).set 0 x)) [(1,.val (.int .i64 y)),(2,.val (.int .i64 z)),(3,.val (.int .i64 u)),(4,.val (.int .i64 v))] =some (vp (sl iC .full [x,y,z,u,v])):=rfl
attribute [go_sem high] PT PU
structure EW (w:ah):Prop where
 g:WG w
 p:∀V,V∈w→∀A,A∈V→∀x,x∈A.2→PI x∧PE x
 e: (eJ w).length≤100000000000
theorem lR {p:Prop}(e:p:=by intro KZ hZ;simp -implicitDefEqProofs (disch:=first|omega| (simp only[go_sem,lA,lD,lT,hk] <;>omega) |decide) only[go_sem,↓reduceIte,Nat.reduceEqDiff,reduceCtorEq,Nat.reduceLT,Nat.reduceBEq,Nat.reduceAdd,hfl,hy];with_reducible exact hZ):p:=e
theorem PR {p:Prop}(e:p:=by intro KZ hZ;simp -implicitDefEqProofs (disch:=first|omega| (simp only[go_sem,lA,lD,lT,hk] <;>omega) |decide) only[go_sem,↓reduceIte,Nat.reduceEqDiff,reduceCtorEq,Nat.reduceLT,Nat.reduceBEq,Nat.reduceAdd,hfl,hy];with_reducible refine And.intro ?_ hZ;first|exact rfl|decide):p:=e
theorem PS {p:Prop}(e:p:=by simp -implicitDefEqProofs (disch:=first|omega| (simp only[go_sem,lA,lD,lT,hk] <;>omega) |decide) only[go_sem,↓reduceIte,Nat.reduceEqDiff,reduceCtorEq];all_goals (rfl)):p:=e
theorem Zw {gl:Nat→C}{M:Nat}{pu:Nat→List C→Option C}(hcx:CxOK (ax gl M pu))(l:List ID)(hl:l.length≤1000000):FC Tryd.prog gl 114 [sl iD .no l] [] (sl iC (.own 1) (gW l)) []:=by
 replace hcx:=hcx.reN (M:=30);refine aH (cx:=ax gl 30 pu) (rs:=[.tmp 2]) rfl Tryd.func114 rfl rfl rfl (by simp only[List.length_cons,List.length_nil];decide) (by simp only[go_sem]) ?_;simp only[bj,go_sem];have ⟨hy,hk⟩:=fo;have hfl:=gJ;refine Tr.w hcx [] _ [] rfl rfl rfl ?_ lR;refine Tr.w hcx [] _ [] rfl rfl rfl ?_ lR;refine aa fun K1 hK1=>?_;refine Tr.w hcx [] _ [] rfl rfl rfl ?_ lR;refine Tr.k [0,3,4] ?_;refine Tr.blk ?_;refine ao (α:=Nat) (fun a=>[(0,?v0_1),(3,sl iC (.own 1) (gW (l.take a))),(4,.val (nI a))]) (fun a=>[]) (fun a=>a≤l.length) (fun a=>l.length - a) (0) (Nat.zero_le _) ?le_1 ?hh_1 ?bd_1
 case hh_1=>exact rfl
 case le_1=>exact LT
 rintro i hi;refine aa fun K2 hK2=>?_;refine Tr.w hcx [] _ [] rfl rfl rfl ?_ lR;refine af rfl (fun hc8=>?_) (fun hc8=>?_)
 ·
  have hk:=gJ (l.take i);rw[List.length_take] at hk;refine Tr.skip ?_;refine hK2 _ ?_;refine aa fun K3 hK3=>?_;refine Tr.blk ?_;refine fS hcx bM [11,1000028] _ [] rfl rfl rfl rfl ?_ PR;refine hK3 _ ?_;refine Tr.k [0,3,4] ?_;rw[FV l i hc8];refine Tr.v hcx [1000010] _ [] rfl rfl rfl ?_ lR;exact ⟨i+1,⟨(by omega),O1⟩,LT,rfl⟩
 refine Tr.exit ?_;refine hK1 _ ?_;obtain rfl:i=l.length:=by omega
 rw[List.take_length];refine Tr.w hcx [1000029] _ [] rfl rfl rfl ?_ lR;exact Tr.ret PS
theorem tS {p:Prop}(e:p:=by intro KZ hZ;simp -implicitDefEqProofs (disch:=first|omega| (simp only[go_sem,lA,lD,lT] <;>omega) |decide) only[go_sem,↓reduceIte,Nat.reduceEqDiff,reduceCtorEq,Nat.reduceLT,Nat.reduceBEq,Nat.reduceAdd,e1,e2,e3,e4,hy];with_reducible exact hZ):p:=e
theorem adf {gl:Nat→C}{M:Nat}{pu:Nat→List C→Option C}(hcx:CxOK (ax gl M pu))(h85:∀s:List UInt8,s.length< 70368744177664→pu 85 [.val (str s)] =some (sl bC (.own 1) (wb s)))(h113:∀l:List Int,l.length< 1099511627776→(∀x∈l,-9223372036854775808≤x∧x≤9223372036854775807)→pu 113 [sl iC .no l] =some (sl bC (.own 1) (eQ l)))(h114:∀l:List ID,l.length≤1000000→pu 114 [sl iD .no l] =some (sl iC (.own 1) (gW l)))(p:aI)(hp:PI p)(hz:PE p):FC Tryd.prog gl 86 [.agg (pC p)] [] (sl bC (.own 1) (gX p)) []:=by
 replace hcx:=hcx.reN (M:=30);refine aH (cx:=ax gl 30 pu) (rs:=[.tmp 2]) rfl Tryd.func86 rfl rfl rfl (by simp only[List.length_cons,List.length_nil];decide) (by simp only[go_sem]) ?_;simp only[bj,go_sem];have hy:=True.intro;have e1:=h113 _ (by show 5< _;decide) hp.hd;have e2:=h85 p.2.2.2.1 (by have:=hz.1;omega);have e3:=h114 p.2.2.2.2 hz.2;have e4:=h113 (gW p.2.2.2.2) (by rw[gJ];have:=hz.2;omega) (qY hp.2);have q:=u7 hp hz;unfold gX at q;rw[List.length_append,List.length_append] at q;refine Tr.w hcx [] _ [none] rfl rfl rfl ?_ tS;refine Tr.w hcx [1000018] _ [] rfl rfl rfl ?_ tS;refine Tr.w hcx [19,1000023] _ [] rfl rfl rfl ?_ tS;refine Tr.k [1,3] ?_;refine Tr.w hcx [24,1000029] _ [] rfl rfl rfl ?_ tS;exact Tr.ret mA
theorem fg {p:Prop}(e:p:=by intro KZ hZ;simp -implicitDefEqProofs (maxSteps:=2000000) (disch:=first|omega| (simp only[go_sem,lA,lD,lT,hwl,hVl,hLl] <;>omega) |decide) only[go_sem,↓reduceIte,Nat.reduceEqDiff,reduceCtorEq,Nat.reduceLT,Nat.reduceBEq,Nat.reduceAdd,n84,e85,e86,hVx,hAx,hy];with_reducible exact hZ):p:=e
theorem Wv {p:Prop}(e:p:=by intro KZ hZ;simp -implicitDefEqProofs (maxSteps:=2000000) (disch:=first|omega| (simp only[go_sem,lA,lD,lT,hwl,hVl,hLl] <;>omega) |decide) only[go_sem,↓reduceIte,Nat.reduceEqDiff,reduceCtorEq,Nat.reduceLT,Nat.reduceBEq,Nat.reduceAdd,n84,e85,e86,hVx,hAx,hy];with_reducible refine And.intro ?_ hZ;first|exact rfl|decide):p:=e
theorem Ww {p:Prop}(e:p:=by simp -implicitDefEqProofs (disch:=first|omega| (simp only[go_sem,lA,lD,lT,hwl,hVl,hLl] <;>omega) |decide) only[go_sem,↓reduceIte,Nat.reduceEqDiff,reduceCtorEq];all_goals (rfl)):p:=e
theorem adg {gl:Nat→C}{M:Nat}{pu:Nat→List C→Option C}(hcx:CxOK (ax gl M pu))(h84:∀n:Int,-9223372036854775808≤n∧n≤9223372036854775807→pu 84 [.val (.int .i64 n)] =some (sl bC (.own 1) (bu n)))(h85:∀s:List UInt8,s.length< 70368744177664→pu 85 [.val (str s)] =some (sl bC (.own 1) (wb s)))(h86:∀p:aI,PI p→PE p→pu 86 [.agg (pC p)] =some (sl bC (.own 1) (gX p)))(w:ah)(hw:EW w):FC Tryd.prog gl 46 [.agg [sl vC .no w]] [] (sl bC (.own 1) (eJ w)) []:=by
 replace hcx:=hcx.reN (M:=75);refine aH (cx:=ax gl 75 pu) (rs:=[.tmp 2]) rfl Tryd.func46 rfl rfl rfl (by simp only[List.length_cons,List.length_nil];decide) (by simp only[go_sem]) ?_;simp only[bj,go_sem];have hy:=True.intro;have hwl:=hw.g.n;have ⟨hVl,hLl,hVx,hAx,e85,e86⟩:=wM;have n84:∀m:Nat,m≤1000000→pu 84 [.val (nI m)] =some (sl bC (.own 1) (bu m)):=fun m h=>h84 m ⟨by omega,by omega⟩;have hT:=hw.e;refine Tr.w hcx [] _ [none] rfl rfl rfl ?_ fg;refine aL hcx 0 [sl vC .no w] ?_;refine Tr.w hcx [1000011] _ [] rfl rfl rfl ?_ fg;refine aa fun K1 hK1=>?_;rw[LC w];refine Tr.k [1,3] ?_;refine aW hcx [] ?_;refine Tr.w hcx [] _ [] rfl rfl rfl ?_ fg;refine Tr.k [1,3,4] ?_;refine Tr.blk ?_;refine ao (α:=Nat) (fun a=>[(1,?v1_1),(3,sl bC (.own 1) (ng w a)),(4,.val (nI a))]) (fun a=>[]) (fun a=>a≤w.length) (fun a=>w.length - a) (0) (Nat.zero_le _) ?le_1 ?hh_1 ?bd_1
 case hh_1=>exact rfl
 case le_1=>exact LT
 rintro i hi;refine aa fun K2 hK2=>?_;refine Tr.w hcx [] _ [] rfl rfl rfl ?_ fg;refine af rfl (fun hc16=>?_) (fun hc16=>?_)
 ·
  obtain ⟨V,hVx⟩:∃V,gt w i=V:=⟨_,rfl⟩;have hVm:=bc w i hc16;have hVg:=hw.g.v _ hVm;have hVp:=hw.p _ hVm;have q1:=AC w i hc16;rw[hVx] at hVg hVp q1;have hVl:=hVg.1;have q1b: (bu V.length).length≤9:=gy _ (by omega);obtain ⟨E,hE⟩:∃E,ng w i=E:=⟨_,rfl⟩;rw[hE] at q1;rw[hE];have q1c: (bu V.length).length≤(iM V).length:=by unfold iM;rw[List.length_append];omega
  refine Tr.skip ?_;refine hK2 _ ?_;refine aa fun K3 hK3=>?_;refine Tr.blk ?_;refine Tr.w hcx [19,1000028] _ [] rfl rfl rfl ?_ fg;rw[LD E V];refine Tr.w hcx [] _ [] rfl rfl rfl ?_ fg;refine Tr.k [1,3,4,5] ?_;refine Tr.blk ?_;refine ao (α:=Nat) (fun a=>[(1,?v1_2),(3,sl bC (.own 1) (nh E V a)),(4,?v4_2),(5,.val (nI a))]) (fun a=>[]) (fun a=>a≤V.length) (fun a=>V.length - a) (0) (Nat.zero_le _) ?le_2 ?hh_2 ?bd_2
  case hh_2=>exact rfl
  case le_2=>exact LT
  rintro j hj;refine aa fun K4 hK4=>?_;refine Tr.w hcx [] _ [] rfl rfl rfl ?_ fg;refine af rfl (fun hc37=>?_) (fun hc37=>?_)
  ·
   obtain ⟨B,hAx⟩:∃B,gt V j=B:=⟨_,rfl⟩;have hAm:=bc V j hc37;have hAg:=hVg.2 _ hAm;have hAp:=hVp _ hAm;have q2:=AD E V j hc37;rw[hAx] at hAg hAp q2;have hLl:=hAg.2.1;have e85:=h85 B.1 (by have:=hAg.1;omega);have q2b: (bu B.2.length).length≤9:=gy _ (by omega);have q2d:=ov B.1 (by have:=hAg.1;omega);have q2e:=hAg.1;obtain ⟨F,hF⟩:∃F,nh E V j=F:=⟨_,rfl⟩;rw[hF] at q2;rw[hF];refine Tr.skip ?_;refine hK4 _ ?_;refine aa fun K5 hK5=>?_;refine Tr.blk ?_;refine Tr.w hcx [] _ [none] rfl rfl rfl ?_ fg;refine Tr.k [1,3,4,5,6] ?_;refine aL hcx 0 (aC B) ?_;refine aW hcx [] ?_;refine cf hcx bM [49,53,1000058] _ [] rfl rfl rfl rfl ?_ Wv;rw[LE F B];refine Tr.w hcx [] _ [] rfl rfl rfl ?_ fg;refine Tr.k [1,3,4,5,6,7] ?_;refine Tr.blk ?_;refine ao (α:=Nat) (fun a=>[(1,?v1_3),(3,sl bC (.own 1) (ow F B a)),(4,?v4_3),(5,?v5_3),(6,?v6_3),(7,.val (nI a))]) (fun a=>[]) (fun a=>a≤B.2.length) (fun a=>B.2.length - a) (0) (Nat.zero_le _) ?le_3 ?hh_3 ?bd_3
   case hh_3=>exact rfl
   case le_3=>exact LT
   rintro k hk;refine aa fun K6 hK6=>?_;refine Tr.w hcx [] _ [] rfl rfl rfl ?_ fg;refine af rfl (fun hc63=>?_) (fun hc63=>?_)
   ·
    have q3:=AE F B k hc63;have hP:=hAp _ (bc B.2 k hc63);have e86:=h86 _ hP.1 hP.2;have q3b:=u7 hP.1 hP.2;refine Tr.skip ?_;refine hK6 _ ?_;refine aa fun K7 hK7=>?_;refine Tr.blk ?_;refine Tr.v hcx [66,1000073] _ [] rfl rfl rfl ?_ fg;refine hK7 _ ?_;rw[Ci F B k hc63];refine Tr.v hcx [1000065] _ [] rfl rfl rfl ?_ fg;exact ⟨k+1,⟨(by omega),O1⟩,LT,rfl⟩
   refine Tr.exit ?_;refine hK5 _ ?_;obtain rfl:k=B.2.length:=by omega
   rw[LF F B,←hF,←hAx,Cj E V j hc37];rw[hAx];refine Tr.v hcx [1000039] _ [] rfl rfl rfl ?_ fg;exact ⟨j+1,⟨(by omega),O1⟩,LT,rfl⟩
  refine Tr.exit ?_;refine hK3 _ ?_;obtain rfl:j=V.length:=by omega
  rw[LG E V,←hE,←hVx,Ck w i hc16];refine Tr.v hcx [1000018] _ [] rfl rfl rfl ?_ fg;exact ⟨i+1,⟨(by omega),O1⟩,LT,rfl⟩
 refine Tr.exit ?_;refine hK1 _ ?_;obtain rfl:i=w.length:=by omega
 rw[LH w];refine Tr.w hcx [1000074] _ [] rfl rfl rfl ?_ fg;exact Tr.ret Ww
theorem cE {p:Prop}(e:p:=by intro KZ hZ;simp -implicitDefEqProofs (maxSteps:=2000000) (disch:=first|omega| (simp only[go_sem,lA,lD,lT,hwl,hVl,hLl,hRl,hk] <;>omega) |decide) only[go_sem,↓reduceIte,Nat.reduceEqDiff,reduceCtorEq,Nat.reduceLT,Nat.reduceBEq,Nat.reduceAdd,n49,e77,e77b,e78,e78b,hVx,hAx,hPx,hy];with_reducible exact hZ):p:=e
theorem WC {p:Prop}(e:p:=by simp -implicitDefEqProofs (disch:=first|omega| (simp only[go_sem,lA,lD,lT,hwl,hVl,hLl,hRl,hk] <;>omega) |decide) only[go_sem,↓reduceIte,Nat.reduceEqDiff,reduceCtorEq];all_goals (rfl)):p:=e
theorem adj {gl:Nat→C}{M:Nat}{pu:Nat→List C→Option C}(hcx:CxOK (ax gl M pu))(h49:∀n:Int,-9223372036854775808≤n∧n≤9223372036854775807→pu 49 [.val (.int .i64 n)] =some (sl bC (.own 1) (bu n)))(h77:∀s:List UInt8,s.length< 70368744177664→pu 77 [.val (str s)] =some (sl bC (.own 1) (wb s)))(h78:∀l:List Int,l.length< 1099511627776→(∀x∈l,-9223372036854775808≤x∧x≤9223372036854775807)→pu 78 [sl iC .no l] =some (sl bC (.own 1) (eQ l)))(w:ah)(hw:EW w):FC Tryd.prog gl 42 [.agg [sl vC .no w]] [] (sl bC (.own 1) (eJ w)) []:=by
 replace hcx:=hcx.reN (M:=102);refine aH (cx:=ax gl 102 pu) (rs:=[.tmp 2]) rfl Tryd.func42 rfl rfl rfl (by simp only[List.length_cons,List.length_nil];decide) (by simp only[go_sem]) ?_;simp only[bj,go_sem];have hy:=True.intro;have hwl:=hw.g.n;have ⟨hVl,hLl,hRl,hVx,hAx,hPx,e77,e77b,e78,e78b,hk⟩:=XK;have n49:∀m:Nat,m≤1000000→pu 49 [.val (nI m)] =some (sl bC (.own 1) (bu m)):=fun m h=>h49 m ⟨by omega,by omega⟩;have hT:=hw.e;refine Tr.w hcx [] _ [none] rfl rfl rfl ?_ cE;refine aL hcx 0 [sl vC .no w] ?_;refine Tr.w hcx [1000016] _ [] rfl rfl rfl ?_ cE;refine aa fun K1 hK1=>?_;rw[LC w];refine Tr.k [1,3] ?_;refine aW hcx [] ?_;refine Tr.w hcx [] _ [] rfl rfl rfl ?_ cE;refine Tr.k [3,18,19,20] ?_;refine Tr.blk ?_;refine ao (α:=Nat) (fun a=>[(3,sl bC (.own 1) (ng w a)),(18,?v18_1),(19,?v19_1),(20,.val (nI a))]) (fun a=>[]) (fun a=>a≤w.length) (fun a=>w.length - a) (0) (Nat.zero_le _) ?le_1 ?hh_1 ?bd_1
 case hh_1=>exact rfl
 case le_1=>exact LT
 rintro i hi;refine Tr.w hcx [] _ [] rfl rfl rfl ?_ cE;refine aa fun K2 hK2=>?_;refine af rfl (fun hc21=>?_) (fun hc21=>?_)
 ·
  obtain ⟨V,hVx⟩:∃V,gt w i=V:=⟨_,rfl⟩;have hVm:=bc w i hc21;have hVg:=hw.g.v _ hVm;have hVp:=hw.p _ hVm;have q1:=AC w i hc21;rw[hVx] at hVg hVp q1;have hVl:=hVg.1;have q1b: (bu V.length).length≤9:=gy _ (by omega);obtain ⟨E,hE⟩:∃E,ng w i=E:=⟨_,rfl⟩;rw[hE] at q1;rw[hE];have q1c: (bu V.length).length≤(iM V).length:=by unfold iM;rw[List.length_append];omega
  refine Tr.skip ?_;refine hK2 _ ?_;refine aa fun K3 hK3=>?_;refine Tr.blk ?_;refine Tr.w hcx [] _ [none] rfl rfl rfl ?_ cE;refine aL hcx 0 (vC V) ?_;refine aW hcx [] ?_;refine Tr.w hcx [24,1000029] _ [] rfl rfl rfl ?_ cE;rw[LD E V];refine Tr.w hcx [] _ [] rfl rfl rfl ?_ cE;refine Tr.k [3,18,19,20,31,32,33] ?_;refine Tr.blk ?_;refine ao (α:=Nat) (fun a=>[(3,sl bC (.own 1) (nh E V a)),(18,?v18_2),(19,?v19_2),(20,?v20_2),(31,?v31_2),(32,?v32_2),(33,.val (nI a))]) (fun a=>[]) (fun a=>a≤V.length) (fun a=>V.length - a) (0) (Nat.zero_le _) ?le_2 ?hh_2 ?bd_2
  case hh_2=>exact rfl
  case le_2=>exact LT
  rintro j hj;refine Tr.w hcx [] _ [] rfl rfl rfl ?_ cE;refine aa fun K4 hK4=>?_;refine af rfl (fun hc34=>?_) (fun hc34=>?_)
  ·
   obtain ⟨B,hAx⟩:∃B,gt V j=B:=⟨_,rfl⟩;have hAm:=bc V j hc34;have hAg:=hVg.2 _ hAm;have hAp:=hVp _ hAm;have q2:=AD E V j hc34;rw[hAx] at hAg hAp q2;have hLl:=hAg.2.1;have e77:=h77 B.1 (by have:=hAg.1;omega);have q2b: (bu B.2.length).length≤9:=gy _ (by omega);have q2d:=ov B.1 (by have:=hAg.1;omega);have q2e:=hAg.1;obtain ⟨F,hF⟩:∃F,nh E V j=F:=⟨_,rfl⟩;rw[hF] at q2;rw[hF];refine Tr.skip ?_;refine hK4 _ ?_;refine aa fun K5 hK5=>?_;refine Tr.blk ?_;refine Tr.w hcx [] _ [none] rfl rfl rfl ?_ cE;refine aL hcx 0 (aC B) ?_;refine aW hcx [] ?_;refine Tr.w hcx [37,1000041] _ [] rfl rfl rfl ?_ cE;refine Tr.w hcx [42,1000047] _ [] rfl rfl rfl ?_ cE;refine Tr.k [3,7,18,19,20,31,32,33] ?_;rw[LE F B];refine Tr.w hcx [] _ [] rfl rfl rfl ?_ cE;refine Tr.k [3,18,19,20,31,32,33,49,50,51] ?_;refine Tr.blk ?_;refine ao (α:=Nat) (fun a=>[(3,sl bC (.own 1) (ow F B a)),(18,?v18_3),(19,?v19_3),(20,?v20_3),(31,?v31_3),(32,?v32_3),(33,?v33_3),(49,?v49_3),(50,?v50_3),(51,.val (nI a))]) (fun a=>[]) (fun a=>a≤B.2.length) (fun a=>B.2.length - a) (0) (Nat.zero_le _) ?le_3 ?hh_3 ?bd_3
   case hh_3=>exact rfl
   case le_3=>exact LT
   rintro k hk;refine Tr.w hcx [] _ [] rfl rfl rfl ?_ cE;refine aa fun K6 hK6=>?_;refine af rfl (fun hc52=>?_) (fun hc52=>?_)
   ·
    have q3:=AE F B k hc52;have hP:=hAp _ (bc B.2 k hc52);obtain ⟨p,hPx⟩:∃p,gt B.2 k=p:=⟨_,rfl⟩;rw[hPx] at hP q3;have hRl:=hP.2.2;have e77b:=h77 p.2.2.2.1 (by have:=hP.2.1;omega);have e78:=h78 _ (by show 5< _;decide) hP.1.hd;have e78b:=h78 (gW p.2.2.2.2) (by rw[gJ];have:=hP.2.2;omega) (qY hP.1.2);have q3b:=u7 hP.1 hP.2;have q3c: (gX p).length= (eQ [p.1.1,p.1.2.1,p.1.2.2,p.2.1,p.2.2.1]).length+(wb p.2.2.2.1).length+(eQ (gW p.2.2.2.2)).length:=by unfold gX;rw[List.length_append,List.length_append]
    obtain ⟨G,hG⟩:∃G,ow F B k=G:=⟨_,rfl⟩;rw[hG] at q3;rw[hG];refine Tr.skip ?_;refine hK6 _ ?_;refine aa fun K7 hK7=>?_;refine Tr.blk ?_;refine Tr.w hcx [] _ [none] rfl rfl rfl ?_ cE;refine Tr.k [3,9,18,19,20,31,32,33,49,50,51] ?_;refine aL hcx 0 (pC p) ?_;refine aW hcx [] ?_;refine Tr.w hcx [55,1000071] _ [] rfl rfl rfl ?_ cE;refine Tr.k [3,9,18,19,20,31,32,33,49,50,51] ?_;refine Tr.w hcx [72,1000076] _ [] rfl rfl rfl ?_ cE;refine Tr.w hcx [] _ [] rfl rfl rfl ?_ cE;refine aa fun K8 hK8=>?_;refine Tr.w hcx [] _ [] rfl rfl rfl ?_ cE;refine Tr.k [3,10,18,19,20,31,32,33,49,50,51,78,79,80] ?_;refine Tr.blk ?_;refine ao (α:=Nat) (fun a=>[(3,?v3_4),(10,sl iC (.own 1) (gW (p.2.2.2.2.take a))),(18,?v18_4),(19,?v19_4),(20,?v20_4),(31,?v31_4),(32,?v32_4),(33,?v33_4),(49,?v49_4),(50,?v50_4),(51,?v51_4),(78,?v78_4),(79,?v79_4),(80,.val (nI a))]) (fun a=>[]) (fun a=>a≤p.2.2.2.2.length) (fun a=>p.2.2.2.2.length - a) (0) (Nat.zero_le _) ?le_4 ?hh_4 ?bd_4
    case hh_4=>exact rfl
    case le_4=>exact LT
    rintro r hr;refine Tr.w hcx [] _ [] rfl rfl rfl ?_ cE;refine aa fun K9 hK9=>?_;refine af rfl (fun hc81=>?_) (fun hc81=>?_)
    ·
     have hk:=gJ (p.2.2.2.2.take r);rw[List.length_take] at hk;refine Tr.skip ?_;refine hK9 _ ?_;refine aa fun K10 hK10=>?_;refine Tr.blk ?_;refine Tr.w hcx [] _ [none] rfl rfl rfl ?_ cE;refine Tr.k [3,10,12,18,19,20,31,32,33,49,50,51,78,79,80] ?_;refine aL hcx 0 (iD (gt p.2.2.2.2 r)) ?_;refine aW hcx [] ?_;refine Tr.v hcx [84,1000092] _ [] rfl rfl rfl ?_ cE;refine hK10 _ ?_;refine Tr.k [3,10,18,19,20,31,32,33,49,50,51,78,79,80] ?_;rw[FV p.2.2.2.2 r hc81];refine Tr.v hcx [] _ [] rfl rfl rfl ?_ cE;exact ⟨r+1,⟨(by omega),O1⟩,LT,rfl⟩
    refine Tr.exit ?_;refine hK8 _ ?_;obtain rfl:r=p.2.2.2.2.length:=by omega
    rw[List.take_length];refine Tr.v hcx [94,1000097] _ [] rfl rfl rfl ?_ cE;refine hK7 _ ?_;rw[Wx G p,←hG,←hPx,Ci F B k hc52];refine Tr.v hcx [] _ [] rfl rfl rfl ?_ cE;exact ⟨k+1,⟨(by omega),O1⟩,LT,rfl⟩
   refine Tr.exit ?_;refine hK5 _ ?_;obtain rfl:k=B.2.length:=by omega
   rw[LF F B,←hF,←hAx,Cj E V j hc34];rw[hAx];refine Tr.v hcx [] _ [] rfl rfl rfl ?_ cE;exact ⟨j+1,⟨(by omega),O1⟩,LT,rfl⟩
  refine Tr.exit ?_;refine hK3 _ ?_;obtain rfl:j=V.length:=by omega
  rw[LG E V,←hE,←hVx,Ck w i hc21];refine Tr.v hcx [] _ [] rfl rfl rfl ?_ cE;exact ⟨i+1,⟨(by omega),O1⟩,LT,rfl⟩
 refine Tr.exit ?_;refine hK1 _ ?_;obtain rfl:i=w.length:=by omega
 rw[LH w];refine Tr.w hcx [1000101] _ [] rfl rfl rfl ?_ cE;exact Tr.ret WC
end Go.Sx
namespace Go.Sx
open Go.RowKit
section
variable (cx:Cx) (apps:List Nat) (dsts:List (Option Nat)) (l:List Oper) (id id':Nat) (d:Option Nat) (e:List (Nat×C)) (h:Hp) (fs:List FP) (K:List FP→St→Prop)
def xU (b:Nat)(o:Option (List C×C)):Prop:=match o with
 |none=>False
 |some r=>run cx apps dsts l id' (dR d r.2 e) (h.set b (some r.1)) ((6,b)::fs) K
theorem Tp (b:Nat)(f:List C→Option (List C×C)):cG cx apps dsts l id id' d e h fs K (some (.cw b f)) =AN (h.all da=true) (xU cx apps dsts l id' d e h fs K b ((h.at b).bind f)):=by
 unfold cG xU jp AN;simp only[aA];by_cases hh:h.all da=true
 . rw[if_pos hh]
   cases (h.at b).bind f with
   |none=>simp only[Option.map_none,and_false]
   |some r=>
    simp only[Option.map_some,dE,gC,hh,true_and];rfl
 . rw[if_neg hh];simp only[hh,Bool.false_eq_true,false_and]
theorem EU (b:Nat)(cells:List C)(c:C):xU cx apps dsts l id' d e h fs K b (some (cells,c)) =run cx apps dsts l id' (dR d c e) (h.set b (some cells)) ((6,b)::fs) K:=rfl
end
@[congr] theorem YM {cx:Cx} {apps:List Nat} {dsts:List (Option Nat)} {l:List Oper} {id':Nat} {d:Option Nat} {e:List (Nat×C)} {h:Hp} {fs:List FP} {K:List FP→St→Prop} {b:Nat} {o o':Option (List C×C)} (ho:o=o'):
   xU cx apps dsts l id' d e h fs K b o=xU cx apps dsts l id' d e h fs K b o':=by rw[ho]
theorem Jl:List.all ([]:Hp) da=true:=rfl
theorem EV (o:Option (List C))(h:Hp):List.all (o::h) da= (da o && List.all h da):=rfl
theorem Jm:da none=true:=rfl
def Tq (o:Option (List C))(l:List C):Bool:=o.isSome|| (eK (some l)).isSome
theorem Jn (l:List C):da (some l) =Tq (aR (some l)) l:=by unfold da Tq;simp
theorem Jo (x l:List C):Tq (some x) l=true:=rfl
def ec (hp:Nat→List C→Hp→Option (C×Hp))(g:Nat)(az:List C)(b:Nat)(cells:List C):Option (List C×C):=
 match hp g (mvCs [b] az) [some (mvCs [b] cells)] with
 |some (c,[some cells']) =>if ae 0 c=true∧noRefs 0 cells'=true then some (cells',c) else none
 |_=>none
theorem Ts (cx:Cx)(g:Nat)(az:List C)(b:Nat)(cells:List C):w9 cx g az b cells=ec cx.hp g az b cells:=rfl
structure One (P:Program) (gl:Nat→C) (f:Nat) (α:Type) where
 args:α→Nat→List C
 X:α→List C
 r:α→C
 Y:α→List C
 nx:∀a,noRefs 0 (X a) =true
 nr:∀a,ae 0 (r a) =true
 ny:∀a,noRefs 0 (Y a) =true
 mv:∀a b,mvCs [b] (args a b) =args a 0
 bp:∀a b,∃o,C.bp b o∈args a b
 inj:∀a a',args a 0=args a' 0→X a=X a'→r a=r a'∧Y a=Y a'
 fc:∀a,FC P gl f (args a 0) [some (X a)] (r a) [some (Y a)]
section
variable {P:Program} {gl:Nat→C} {f:Nat} {α:Type}
abbrev Jp (α:Type):=α ⊕ {xs:List C // ∃b o,C.bp b o∈xs}
def One.enc (S:One P gl f α):Jp α→List C×Hp
 | .inl a=>(S.args a 0,[some (S.X a)])
 | .inr xs=>(xs.1,[])
def One.out (S:One P gl f α):Jp α→C×Hp
 | .inl a=>(S.r a,[some (S.Y a)])
 | .inr _=>(.top,[none])
theorem One.ij (S:One P gl f α)(x y:Jp α)(h:S.enc x=S.enc y):S.out x=S.out y:=by
 cases x with
 |inl a=>
  cases y with
  |inl b=>
   simp only[One.enc,Prod.mk.injEq,List.cons.injEq,Option.some.injEq,and_true] at h;obtain ⟨q1,q2⟩:=S.inj a b h.1 h.2;simp only[One.out,q1,q2]
  |inr ys=>simp[One.enc] at h
 |inr xs=>
  cases y with
  |inl b=>simp[One.enc] at h
  |inr ys=>rfl
noncomputable def One.tab (S:One P gl f α)(hp:Nat→List C→Hp→Option (C×Hp)):Nat→List C→Hp→Option (C×Hp):=extH hp f (mi S.enc S.out)
theorem dg {km:TypeId→Value→Bool}{pu:Nat→List C→Option C}{hp:Nat→List C→Hp→Option (C×Hp)}{N M:Nat}(hcx:CxOK ⟨P,N,gl,pu,hp,fun _=>false,km,true⟩)(he:jB P f)(S:One P gl f α):
 CxOK ⟨P,M,gl,pu,S.tab hp,fun _=>false,km,true⟩:=CxOK.extH hcx fun a=>by
 cases a with
 |inl a=>exact S.fc a
 |inr xs=>
  obtain ⟨xs,b,o,hx⟩:=xs;exact EN he b o hx
mutual
theorem Tt (r:List Nat):∀c:C,ae 0 c=true→aU r c=c
 | .val _,_=>by simp only[aU]
 | .top,_=>by simp only[aU]
 | .agg xs,h=>by simp only[ae] at h;simp only[aU,mv1s_nr r xs h]
 | .tup xs,h=>by simp only[ae] at h;simp only[aU,mv1s_nr r xs h]
 | .kp xs,h=>by simp only[ae] at h;simp only[aU,mv1s_nr r xs h]
 | .fn _ xs,h=>by simp only[ae] at h;simp only[aU,mv1s_nr r xs h]
 | .sl _ _ xs,h=>by simp only[ae] at h;simp only[aU,mv1s_nr r xs h]
 | .sv _ _ _,h=>by simp[ae] at h
 | .gv _ _ _,h=>by simp[ae] at h
 | .bp _ _,h=>by simp[ae] at h
 | .bt _ _ _,h=>by simp[ae] at h
 | .mp _,h=>by simp[ae] at h
theorem mv1s_nr (r:List Nat):∀l:List C,noRefs 0 l=true→mvCs r l=l
 | [],_=>by simp only[mvCs]
 |x::xs,h=>by simp only[noRefs,Bool.and_eq_true] at h;simp only[mvCs,Tt r x h.1,mv1s_nr r xs h.2]
end
theorem One.look (S:One P gl f α)(hp:Nat→List C→Hp→Option (C×Hp))(a:α)(b:Nat):ec (S.tab hp) f (S.args a b) b (S.X a) =some (S.Y a,S.r a):=by
 have e:S.tab hp f (S.args a 0) [some (S.X a)] =some (S.r a,[some (S.Y a)]):=(jt _ _).trans (kl S.ij (.inl a));unfold ec;rw[S.mv,mv1s_nr _ _ (S.nx a),e];simp only[];rw[if_pos ⟨S.nr a,S.ny a⟩]
theorem One.miss (S:One P gl f α)(hp:Nat→List C→Hp→Option (C×Hp)){g:Nat}(h:g≠f)(xs:List C)(k:Hp):S.tab hp g xs k=hp g xs k:=mY h xs k
theorem One.missC (S:One P gl f α)(hp:Nat→List C→Hp→Option (C×Hp)){g:Nat}(h:g≠f)(xs:List C)(b:Nat)(cells:List C):ec (S.tab hp) g xs b cells=ec hp g xs b cells:=by
 unfold ec;rw[S.miss hp h]
end
attribute [go_sem] IQ Tp EU Jl EV Jm Jn Jo Ts Bool.true_or Bool.and_self
end Go.Sx
namespace Go.Sx
open Go.RowKit Go.Proofs
abbrev ba:=List UInt8×Nat
def rC (s:ba):List C:=[sl bC .no s.1,.val (nI s.2)]
def jI {α:Type}(g:List UInt8→α×Nat×Nat)(ok:α→Bool)(z:α)(s:ba):α×ba:=
 if s.2≠0 then (z,s) else if (g s.1).2.2≠0 then (z,(s.1,(g s.1).2.2)) else if ok (g s.1).1=false then (z,(s.1,2)) else ((g s.1).1,(s.1.drop (g s.1).2.1,0))
section
variable {α:Type} {g:List UInt8→α×Nat×Nat} {ok:α→Bool} {z:α} {b:List UInt8} {e:Nat}
theorem mM (h:¬e=0):jI g ok z (b,e) = (z,(b,e)):=if_pos h
theorem kG (h:e=0)(h1:¬ (g b).2.2=0):jI g ok z (b,e) = (z,(b,(g b).2.2)):=by unfold jI;rw[if_neg (fun q=>q h),if_pos h1]
theorem lr (h:e=0)(h1: (g b).2.2=0)(h2:ok (g b).1=false):jI g ok z (b,e) = (z,(b,2)):=by unfold jI;rw[if_neg (fun q=>q h),if_neg (fun q=>q h1),if_pos h2]
theorem kH (h:e=0)(h1: (g b).2.2=0)(h2:ok (g b).1=true):jI g ok z (b,e) = ((g b).1,(b.drop (g b).2.1,0)):=by unfold jI;rw[if_neg (fun q=>q h),if_neg (fun q=>q h1),if_neg (by rw[h2];decide)]
end
def fN (n:Int):Bool:=decide (((0:Nat):Int)≤n)
def f5 (l:List Int):Bool:=decide (l.length=5)
def f3 (l:List Int):Bool:=decide (l.length % 3=0)
def fT (_:List UInt8):Bool:=true
def bq (s:ba):Int×ba:=jI ab fN 0 s
def bR (s:ba):List UInt8×ba:=jI bJ fT [] s
def dH (s:ba):List Int×ba:=jI (aS ab 1) f5 [] s
def eU (s:ba):List Int×ba:=jI (aS ab 1) f3 [] s
theorem FW (b:List UInt8):∀ (n a:Nat)(l:List Int),(fm ab b n a l).2.2≤3
 |0,a,l=>Nat.zero_le _
 |n+1,a,l=>by
  unfold fm;split
  . exact (du _).2.2.1
  . exact FW b n _ _
theorem kI (b:List UInt8): (aS ab 1 b).2.2≤3:=by
 unfold aS;split
 . exact FW b _ _ _
 . exact od b 1
theorem lS (b:List UInt8): (aS ab 1 b).2.1≤b.length:=by
 by_cases h: (aS ab 1 b).2.2=0
 . exact (qn h).2
 . rw[(x9 h).2];exact Nat.zero_le _
theorem qZ (b:List UInt8): (aS ab 1 b).1.length≤b.length:=by
 by_cases h: (aS ab 1 b).2.2=0
 . have:=qn h
   have h1:=Jv (aS ab 1 b).1;rw[this.1,List.length_take] at h1;omega
 . rw[(x9 h).1];exact Nat.zero_le _
structure Rdr {α:Type} (f:ba→α×ba):Prop where
 le:∀s,(f s).2.1.length≤s.1.length
 er:∀s,s.2≤10→(f s).2.2≤10
 on:∀s,s.2=0→(f s).2.2=0→(f s).2.1.length< s.1.length
 no:∀s,s.2≠0→(f s).2=s
theorem q8 {α:Type}{g:List UInt8→α×Nat×Nat}{ok:α→Bool}{z:α}(h1:∀b,(g b).2.2=0→1≤(g b).2.1∧(g b).2.1≤b.length)(h2:∀b,(g b).2.2≤3):Rdr (jI g ok z):=by
 refine ⟨fun s=>?_,fun s hs=>?_,fun s hs he=>?_,fun s hs=>?_⟩
 . unfold jI;split;exact Nat.le_refl _
   split;exact Nat.le_refl _
   split;exact Nat.le_refl _
   show (s.1.drop _).length≤_;rw[List.length_drop];omega
 . unfold jI;split;exact hs
   split;exact Nat.le_trans (h2 _) (by decide)
   split
   . show 2≤10;decide
   . show 0≤10;decide
 . have hne:∀ (x:Nat),x≠0→¬x=0:=fun _ h=>h
   by_cases hg: (g s.1).2.2=0
   . have q:=h1 _ hg
     by_cases hk:ok (g s.1).1=false
     . have:jI g ok z s= (z,(s.1,2)):=lr hs hg hk
       rw[this] at he;cases he
     . have:jI g ok z s= ((g s.1).1,(s.1.drop (g s.1).2.1,0)):=kH hs hg (by simpa using hk)
       rw[this];show (s.1.drop _).length< _;rw[List.length_drop];omega
   . have:jI g ok z s= (z,(s.1,(g s.1).2.2)):=kG hs hg
     rw[this] at he;exact absurd he hg
 . unfold jI;rw[if_pos hs]
theorem rdI_r:Rdr bq:=q8 (fun b h=>by have:=Aa h;omega) (fun b=>(du b).2.2.1)
theorem rdT_r:Rdr bR:=q8 (fun b h=>⟨((iZ b).2.2.2 h).1,(iZ b).1⟩) (fun b=>(iZ b).2.2.1)
theorem AF {b:List UInt8}(h: (aS ab 1 b).2.2=0):1≤(aS ab 1 b).2.1:=by
 have q:=qn h;have h1:1≤(eQ (aS ab 1 b).1).length:=by unfold eQ;rw[List.length_append];have:=uK (aS ab 1 b).1.length;omega
 rw[q.1,List.length_take] at h1;omega
theorem rd5_r:Rdr dH:=q8 (fun b h=>⟨AF h,lS b⟩) kI
theorem rd3_r:Rdr eU:=q8 (fun b h=>⟨AF h,lS b⟩) kI
def rep {α:Type}(f:ba→α×ba):Nat→ba→List α→List α×ba
 |0,s,l=>(l,s)
 |n+1,s,l=>if s.2≠0 then (l,s) else rep f n (f s).2 (l++[(f s).1])
section
variable {α:Type} {f:ba→α×ba}
theorem tU (n:Nat){s:ba}(h:¬s.2=0)(l:List α):rep f n s l= (l,s):=by
 cases n with
 |zero=>rfl
 |succ n=>exact if_pos h
theorem ZD {n i:Nat}{s:ba}{l:List α}(hi:i< n)(h:s.2=0):rep f (n - i) s l=rep f (n - (i+1)) (f s).2 (l++[(f s).1]):=by
 obtain ⟨d,hd⟩:∃d,n - i=d+1:=⟨n - i - 1,by omega⟩;rw[hd,show n - (i+1) =d by omega];show (if s.2≠0 then _ else _) =_;rw[if_neg (fun q=>q h)]
theorem ox (hf:Rdr f):∀ (n:Nat)(s:ba)(l:List α),(rep f n s l).2.1.length≤s.1.length∧(s.2≤10→(rep f n s l).2.2≤10)∧(rep f n s l).1.length+(rep f n s l).2.1.length≤l.length+s.1.length+1∧((rep f n s l).2.2=0→(rep f n s l).1.length+(rep f n s l).2.1.length≤l.length+s.1.length)
 |0,s,l=>⟨Nat.le_refl _,id,by show l.length+s.1.length≤_;omega,fun _=>Nat.le_refl _⟩
 |n+1,s,l=>by
  by_cases h:s.2=0
  . have e:rep f (n+1) s l=rep f n (f s).2 (l++[(f s).1]):=if_neg (fun q=>q h)
    rw[e];have q1:=hf.le s;have q2:=hf.er s;have q3:=hf.on s h;by_cases h2: (f s).2.2=0
    . obtain ⟨a,b,c,d⟩:=ox hf n (f s).2 (l++[(f s).1])
      rw[List.length_append,List.length_singleton] at c d;have:=q3 h2;exact ⟨by omega,fun hs=>b (q2 hs),by omega,fun hz=>by have:=d hz;omega⟩
    . rw[tU n h2]
      exact ⟨q1,fun hs=>q2 hs,by show (l++[(f s).1]).length+(f s).2.1.length≤_;rw[List.length_append,List.length_singleton];omega,fun hz=>absurd hz h2⟩
  . rw[tU _ h]
    exact ⟨Nat.le_refl _,id,by show l.length+s.1.length≤_;omega,fun _=>Nat.le_refl _⟩
end
def fQ:List Int→List ID
 |x::y::z::l=>(x,y,z)::fQ l
 |_=>[]
def WF (l:List Int):aI:=((gt l 0,gt l 1,gt l 2),gt l 3,gt l 4,[],[])
def WH:aI:=((0,0,0),0,0,[],[])
def cS (s:ba):aI×ba:=
 (((if (dH s).2.2=0 then WF (dH s).1 else WH).1,(if (dH s).2.2=0 then WF (dH s).1 else WH).2.1,(if (dH s).2.2=0 then WF (dH s).1 else WH).2.2.1,(bR (dH s).2).1,fQ (eU (bR (dH s).2).2).1),(eU (bR (dH s).2).2).2)
def dU (s:ba):dG×ba:=(((bR s).1,(rep cS (bq (bR s).2).1.toNat (bq (bR s).2).2 []).1),(rep cS (bq (bR s).2).1.toNat (bq (bR s).2).2 []).2)
def gp (s:ba):bE×ba:=rep dU (bq s).1.toNat (bq s).2 []
def pH (s:ba):ah×ba:=rep gp (bq s).1.toNat (bq s).2 []
def dw (b:List UInt8):ah×Nat×Nat:=if (pH (b,0)).2.2=0 then ((pH (b,0)).1,b.length - (pH (b,0)).2.1.length,0) else ([],0,(pH (b,0)).2.2)
theorem Rdr.bind {α β γ:Type}{f:ba→α×ba}{k:α→ba→β×ba}{c:ba→γ}(hf:Rdr f)(hk:∀a s,(k a s).2.1.length≤s.1.length∧(s.2≤10→(k a s).2.2≤10)∧(s.2≠0→(k a s).2=s)):Rdr (fun s=>(c s,(k (f s).1 (f s).2).2)):=by
 refine ⟨fun s=>Nat.le_trans (hk _ _).1 (hf.le s),fun s hs=>(hk _ _).2.1 (hf.er s hs),fun s h0 h1=>?_,fun s h0=>?_⟩
 . by_cases h2: (f s).2.2=0
   . exact Nat.lt_of_le_of_lt (hk _ _).1 (hf.on s h0 h2)
   . have:=(hk (f s).1 (f s).2).2.2 h2
     have h1': (k (f s).1 (f s).2).2.2=0:=h1;rw[this] at h1';exact absurd h1' h2
 . have h1:=hf.no s h0
   show (k (f s).1 (f s).2).2=s;rw[h1];exact (hk _ _).2.2 h0
theorem Rdr.k {α:Type}{f:ba→α×ba}(h:Rdr f)(s:ba): (f s).2.1.length≤s.1.length∧(s.2≤10→(f s).2.2≤10)∧(s.2≠0→(f s).2=s):=⟨h.le s,h.er s,h.no s⟩
theorem tV {α:Type}{f:ba→α×ba}(h:Rdr f)(n:Nat)(s:ba)(l:List α): (rep f n s l).2.1.length≤s.1.length∧(s.2≤10→(rep f n s l).2.2≤10)∧(s.2≠0→(rep f n s l).2=s):=
 ⟨(ox h n s l).1,(ox h n s l).2.1,fun q=>by rw[tU n q]⟩
theorem mN:Rdr cS:=Rdr.bind (f:=dH) (k:=fun _ s=>eU (bR s).2) rd5_r fun _ s=>⟨Nat.le_trans (rd3_r.le _) (rdT_r.le s),fun h=>rd3_r.er _ (rdT_r.er s h),fun h=>by
 have:=rdT_r.no s h;rw[this];exact rd3_r.no s h⟩
theorem oy:Rdr dU:=Rdr.bind (f:=bR) (k:=fun _ s=>rep cS (bq s).1.toNat (bq s).2 []) rdT_r fun _ s=>⟨Nat.le_trans (tV mN _ _ _).1 (rdI_r.le s),fun h=>(tV mN _ _ _).2.1 (rdI_r.er s h),fun h=>by
 have:=rdI_r.no s h;rw[this];exact (tV mN _ _ _).2.2 h⟩
theorem mO:Rdr gp:=Rdr.bind (f:=bq) (k:=fun a s=>rep dU a.toNat s []) (c:=fun s=>(rep dU (bq s).1.toNat (bq s).2 []).1) rdI_r fun a s=>tV oy _ s _
theorem wkR_r:Rdr pH:=Rdr.bind (f:=bq) (k:=fun a s=>rep gp a.toNat s []) (c:=fun s=>(rep gp (bq s).1.toNat (bq s).2 []).1) rdI_r fun a s=>tV mO _ s _
theorem PV (b o:Nat):an Tryd.prog 116 (.bp b o) 0=some (vp (.bp b (o+0))):= @jH Tryd.prog 116 0 72 0 _ _ _ _ _ _ AU rfl rfl rfl AT (by decide) b o
theorem PW (b o:Nat):an Tryd.prog 116 (.bp b o) 1=some (vp (.bp b (o+1))):= @jH Tryd.prog 116 1 25 1 _ _ _ _ _ _ AU rfl rfl rfl GC (by decide) b o
theorem PX (b o:Nat):an Tryd.prog 135 (.bp b o) 0=some (vp (.bp b (o+0))):= @jH Tryd.prog 135 0 72 0 _ _ _ _ _ _ AV rfl rfl rfl AT (by decide) b o
theorem PY (b o:Nat):an Tryd.prog 135 (.bp b o) 1=some (vp (.bp b (o+1))):= @jH Tryd.prog 135 1 25 1 _ _ _ _ _ _ AV rfl rfl rfl GC (by decide) b o
attribute [go_sem] PV PW PX PY
set_option maxRecDepth 100000
set_option maxHeartbeats 8000000
theorem Zx {gl:Nat→C}{M:Nat}{pu:Nat→List C→Option C}(hcx:CxOK (ax gl M pu))(n:Int):FC Tryd.prog gl 106 [.val (.int .i64 n)] [] (.val (.bool (fN n))) []:=by
 replace hcx:=hcx.reN (M:=5);refine aH (cx:=ax gl 5 pu) (rs:=[.tmp 2]) rfl Tryd.func106 rfl rfl rfl (by simp only[List.length_cons,List.length_nil];decide) (by simp only[go_sem]) ?_;simp only[bj,go_sem];have hy:=True.intro;refine Tr.w hcx [] _ [] rfl rfl rfl ?_ eN;refine Tr.w hcx [1000004] _ [] rfl rfl rfl ?_ eN;exact Tr.ret mA
theorem Zy {gl:Nat→C}{M:Nat}{pu:Nat→List C→Option C}(hcx:CxOK (ax gl M pu))(l:List Int)(hl:l.length< 1099511627776):FC Tryd.prog gl 110 [sl iC .no l] [] (.val (.bool (f5 l))) []:=by
 replace hcx:=hcx.reN (M:=6);refine aH (cx:=ax gl 6 pu) (rs:=[.tmp 2]) rfl Tryd.func110 rfl rfl rfl (by simp only[List.length_cons,List.length_nil];decide) (by simp only[go_sem]) ?_;simp only[bj,go_sem];have hy:=True.intro;refine Tr.w hcx [] _ [] rfl rfl rfl ?_ eN;refine Tr.w hcx [1000005] _ [] rfl rfl rfl ?_ eN;exact Tr.ret mA
theorem Zz {gl:Nat→C}{M:Nat}{pu:Nat→List C→Option C}(hcx:CxOK (ax gl M pu))(l:List Int)(hl:l.length< 1099511627776):FC Tryd.prog gl 112 [sl iC .no l] [] (.val (.bool (f3 l))) []:=by
 replace hcx:=hcx.reN (M:=7);refine aH (cx:=ax gl 7 pu) (rs:=[.tmp 2]) rfl Tryd.func112 rfl rfl rfl (by simp only[List.length_cons,List.length_nil];decide) (by simp only[go_sem]) ?_;simp only[bj,go_sem];have hy:=True.intro;refine Tr.w hcx [] _ [] rfl rfl rfl ?_ eN;refine Tr.w hcx [1000006] _ [] rfl rfl rfl ?_ eN;exact Tr.ret mA
theorem adk {gl:Nat→C}{M:Nat}{pu:Nat→List C→Option C}(hcx:CxOK (ax gl M pu))(s:List UInt8):FC Tryd.prog gl 82 [.val (str s)] [] (.val (.bool (fT s))) []:=by
 replace hcx:=hcx.reN (M:=3);refine aH (cx:=ax gl 3 pu) (rs:=[.tmp 2]) rfl Tryd.func82 rfl rfl rfl (by simp only[List.length_cons,List.length_nil];decide) (by simp only[go_sem]) ?_;simp only[bj,go_sem];have hy:=True.intro;refine Tr.w hcx [] _ [] rfl rfl rfl ?_ eN;refine Tr.w hcx [] _ [] rfl rfl rfl ?_ eN;exact Tr.ret mA
theorem ZA {gl:Nat→C}{M:Nat}{pu:Nat→List C→Option C}(hcx:CxOK (ax gl M pu))(s:List UInt8):FC Tryd.prog gl 111 [.val (str s)] [] (.val (.bool (fT s))) []:=by
 replace hcx:=hcx.reN (M:=3);refine aH (cx:=ax gl 3 pu) (rs:=[.tmp 2]) rfl Tryd.func111 rfl rfl rfl (by simp only[List.length_cons,List.length_nil];decide) (by simp only[go_sem]) ?_;simp only[bj,go_sem];have hy:=True.intro;refine Tr.w hcx [] _ [] rfl rfl rfl ?_ eN;refine Tr.w hcx [] _ [] rfl rfl rfl ?_ eN;exact Tr.ret mA
theorem ZB {gl:Nat→C}{M0:Nat}{pu:Nat→List C→Option C}{hp:Nat→List C→Hp→Option (C×Hp)}(hcx:CxOK (cJ gl M0 pu hp))(b:List UInt8)(e:Nat)(hb:b.length< 1099511627776)(he:e≤10)(h105:∀b:List UInt8,b.length< 1099511627776→pu 105 [sl bC .no b] =some (.tup [.val (.int .i64 (ab b).1),.val (nI (ab b).2.1),.val (nI (ab b).2.2)]))(h106:∀n:Int,pu 106 [.val (.int .i64 n)] =some (.val (.bool (fN n)))):FC Tryd.prog gl 104 [.bp 0 0,.fn 105 [],.fn 106 []] [some [sl bC .no b,.val (nI e)]] (.val (.int .i64 (bq (b,e)).1)) [some (rC (bq (b,e)).2)]:=by
 replace hcx:=hcx.reN (M:=52);refine gc (cx:=cJ gl 52 pu hp) (rs:=[.tmp 6]) rfl Tryd.func104 rfl rfl rfl (by simp only[List.length_cons,List.length_nil];decide) ?_;simp only[bj,go_sem];have ⟨c0,c1,c2,hy⟩:=jd;have bM:= @gY;have ge:=h105 b hb;have oke:=h106 (ab b).1;have hgb:=(du b).1;have hgc:=(du b).2.2.1;refine Tr.w hcx [] _ [] rfl rfl rfl ?_ au;refine Tr.w hcx [] _ [] rfl rfl rfl ?_ au;refine aa fun K1 hK1=>?_;by_cases c0:e=0
 ·
  have c0o:=c0;replace c0:=eq_true c0;by_cases c1: (ab b).2.2=0
  ·
   have c1o:=c1;replace c1:=eq_true c1;by_cases c2:fN (ab b).1=true
   ·
    have c2o:=c2;have hR:bq (b,e) =_:=kH c0o c1o c2o;refine Tr.w hcx [] _ [] rfl rfl rfl ?_ au;refine aq rfl ?_;refine Tr.skip ?_;refine hK1 _ ?_;refine Tr.w hcx [1000024,1000025,1000026] _ [] rfl rfl rfl ?_ au;refine Tr.k [0,2,7,8,9,10] ?_;refine aa fun K2 hK2=>?_;refine Tr.w hcx [] [some 27,some 28,some 29,some 30,some 31,some 32,some 33,some 34] [] rfl rfl rfl ?_ au;refine aq rfl ?_;refine Tr.skip ?_;refine hK2 _ ?_;refine aa fun K3 hK3=>?_;refine Tr.w hcx [] _ [] rfl rfl rfl ?_ au;refine Tr.w hcx [] _ [] rfl rfl rfl ?_ au;refine aq rfl ?_;refine Tr.skip ?_;refine hK3 _ ?_;refine Tr.k [0,8,9] ?_;refine Tr.w hcx [] _ [] rfl rfl rfl ?_ au;refine Tr.w hcx [1000051] _ [] rfl rfl rfl ?_ au;exact Tr.ret eD
   have c2o:fN (ab b).1=false:=(Bool.not_eq_true _).mp c2;replace c2:=c2o;have hR:bq (b,e) =_:=lr c0o c1o c2o;refine Tr.w hcx [] _ [] rfl rfl rfl ?_ au;refine aq rfl ?_;refine Tr.skip ?_;refine hK1 _ ?_;refine Tr.w hcx [1000024,1000025,1000026] _ [] rfl rfl rfl ?_ au;refine Tr.k [0,2,7,8,9,10] ?_;refine aa fun K4 hK4=>?_;refine Tr.w hcx [] [some 27,some 28,some 29,some 30,some 31,some 32,some 33,some 34] [] rfl rfl rfl ?_ au;refine aG rfl ?_;refine Tr.v hcx [] _ [] rfl rfl rfl ?_ au;refine hK4 _ ?_;refine aa fun K5 hK5=>?_;refine Tr.w hcx [] _ [] rfl rfl rfl ?_ au;refine Tr.w hcx [] _ [] rfl rfl rfl ?_ au;refine aG rfl ?_;refine Tr.w hcx [1000041] _ [] rfl rfl rfl ?_ au;exact Tr.ret eD
  have c1o:=c1;replace c1:=eq_false c1;have c2:=True.intro;have hR:bq (b,e) =_:=kG c0o c1o;refine Tr.w hcx [] _ [] rfl rfl rfl ?_ au;refine aq rfl ?_;refine Tr.skip ?_;refine hK1 _ ?_;refine Tr.w hcx [1000024,1000025,1000026] _ [] rfl rfl rfl ?_ au;refine Tr.k [0,2,7,8,9,10] ?_;refine aa fun K6 hK6=>?_;refine Tr.w hcx [] [some 27,some 28,some 29,some 30,some 31,some 32,some 33,some 34] [] rfl rfl rfl ?_ au;refine aq rfl ?_;refine Tr.skip ?_;refine hK6 _ ?_;refine aa fun K7 hK7=>?_;refine Tr.w hcx [] _ [] rfl rfl rfl ?_ au;refine Tr.w hcx [] _ [] rfl rfl rfl ?_ au;refine aG rfl ?_;refine Tr.w hcx [1000041] _ [] rfl rfl rfl ?_ au;exact Tr.ret eD
 have c0o:=c0;replace c0:=eq_false c0;have ⟨c1,c2⟩:=fo;have hR:bq (b,e) =_:=mM c0o;refine Tr.w hcx [] _ [] rfl rfl rfl ?_ au;refine aG rfl ?_;refine Tr.w hcx [1000016] _ [] rfl rfl rfl ?_ au;exact Tr.ret eD
theorem WD {gl:Nat→C}{M0:Nat}{pu:Nat→List C→Option C}{hp:Nat→List C→Hp→Option (C×Hp)}(hcx:CxOK (cJ gl M0 pu hp))(b:List UInt8)(e:Nat)(hb:b.length< 1099511627776)(he:e≤10)(h81:∀b:List UInt8,b.length< 1099511627776→pu 81 [sl bC .no b] =some (.tup [.val (str (bJ b).1),.val (nI (bJ b).2.1),.val (nI (bJ b).2.2)]))(h82:∀s:List UInt8,pu 82 [.val (str s)] =some (.val (.bool (fT s)))):FC Tryd.prog gl 80 [.bp 0 0,.fn 81 [],.fn 82 []] [some [sl bC .no b,.val (nI e)]] (.val (str (bR (b,e)).1)) [some (rC (bR (b,e)).2)]:=by
 replace hcx:=hcx.reN (M:=52);refine gc (cx:=cJ gl 52 pu hp) (rs:=[.tmp 6]) rfl Tryd.func80 rfl rfl rfl (by simp only[List.length_cons,List.length_nil];decide) ?_;simp only[bj,go_sem];have ⟨c0,c1,c2,hy⟩:=jd;have bM:= @gY;have ge:=h81 b hb;have oke:=h82 (bJ b).1;have hgb:=(iZ b).1;have hgc:=(iZ b).2.2.1;refine Tr.w hcx [] _ [] rfl rfl rfl ?_ au;refine Tr.w hcx [] _ [] rfl rfl rfl ?_ au;refine aa fun K1 hK1=>?_;by_cases c0:e=0
 ·
  have c0o:=c0;replace c0:=eq_true c0;by_cases c1: (bJ b).2.2=0
  ·
   have c1o:=c1;replace c1:=eq_true c1;by_cases c2:fT (bJ b).1=true
   ·
    have c2o:=c2;have hR:bR (b,e) =_:=kH c0o c1o c2o;refine Tr.w hcx [] _ [] rfl rfl rfl ?_ au;refine aq rfl ?_;refine Tr.skip ?_;refine hK1 _ ?_;refine Tr.w hcx [1000024,1000025,1000026] _ [] rfl rfl rfl ?_ au;refine Tr.k [0,2,7,8,9,10] ?_;refine aa fun K2 hK2=>?_;refine Tr.w hcx [] [some 27,some 28,some 29,some 30,some 31,some 32,some 33,some 34] [] rfl rfl rfl ?_ au;refine aq rfl ?_;refine Tr.skip ?_;refine hK2 _ ?_;refine aa fun K3 hK3=>?_;refine Tr.w hcx [] _ [] rfl rfl rfl ?_ au;refine Tr.w hcx [] _ [] rfl rfl rfl ?_ au;refine aq rfl ?_;refine Tr.skip ?_;refine hK3 _ ?_;refine Tr.k [0,8,9] ?_;refine Tr.w hcx [] _ [] rfl rfl rfl ?_ au;refine Tr.w hcx [1000051] _ [] rfl rfl rfl ?_ au;exact Tr.ret eD
   have c2o:fT (bJ b).1=false:=(Bool.not_eq_true _).mp c2;replace c2:=c2o;have hR:bR (b,e) =_:=lr c0o c1o c2o;refine Tr.w hcx [] _ [] rfl rfl rfl ?_ au;refine aq rfl ?_;refine Tr.skip ?_;refine hK1 _ ?_;refine Tr.w hcx [1000024,1000025,1000026] _ [] rfl rfl rfl ?_ au;refine Tr.k [0,2,7,8,9,10] ?_;refine aa fun K4 hK4=>?_;refine Tr.w hcx [] [some 27,some 28,some 29,some 30,some 31,some 32,some 33,some 34] [] rfl rfl rfl ?_ au;refine aG rfl ?_;refine Tr.v hcx [] _ [] rfl rfl rfl ?_ au;refine hK4 _ ?_;refine aa fun K5 hK5=>?_;refine Tr.w hcx [] _ [] rfl rfl rfl ?_ au;refine Tr.w hcx [] _ [] rfl rfl rfl ?_ au;refine aG rfl ?_;refine Tr.w hcx [1000041] _ [] rfl rfl rfl ?_ au;exact Tr.ret eD
  have c1o:=c1;replace c1:=eq_false c1;have c2:=True.intro;have hR:bR (b,e) =_:=kG c0o c1o;refine Tr.w hcx [] _ [] rfl rfl rfl ?_ au;refine aq rfl ?_;refine Tr.skip ?_;refine hK1 _ ?_;refine Tr.w hcx [1000024,1000025,1000026] _ [] rfl rfl rfl ?_ au;refine Tr.k [0,2,7,8,9,10] ?_;refine aa fun K6 hK6=>?_;refine Tr.w hcx [] [some 27,some 28,some 29,some 30,some 31,some 32,some 33,some 34] [] rfl rfl rfl ?_ au;refine aq rfl ?_;refine Tr.skip ?_;refine hK6 _ ?_;refine aa fun K7 hK7=>?_;refine Tr.w hcx [] _ [] rfl rfl rfl ?_ au;refine Tr.w hcx [] _ [] rfl rfl rfl ?_ au;refine aG rfl ?_;refine Tr.w hcx [1000041] _ [] rfl rfl rfl ?_ au;exact Tr.ret eD
 have c0o:=c0;replace c0:=eq_false c0;have ⟨c1,c2⟩:=fo;have hR:bR (b,e) =_:=mM c0o;refine Tr.w hcx [] _ [] rfl rfl rfl ?_ au;refine aG rfl ?_;refine Tr.w hcx [1000016] _ [] rfl rfl rfl ?_ au;exact Tr.ret eD
theorem LJ {gl:Nat→C}{M0:Nat}{pu:Nat→List C→Option C}{hp:Nat→List C→Hp→Option (C×Hp)}(hcx:CxOK (cJ gl M0 pu hp))(b:List UInt8)(e:Nat)(hb:b.length< 1099511627776)(he:e≤10)(h81:∀b:List UInt8,b.length< 1099511627776→pu 81 [sl bC .no b] =some (.tup [.val (str (bJ b).1),.val (nI (bJ b).2.1),.val (nI (bJ b).2.2)]))(h111:∀s:List UInt8,pu 111 [.val (str s)] =some (.val (.bool (fT s)))):FC Tryd.prog gl 80 [.bp 0 0,.fn 81 [],.fn 111 []] [some [sl bC .no b,.val (nI e)]] (.val (str (bR (b,e)).1)) [some (rC (bR (b,e)).2)]:=by
 replace hcx:=hcx.reN (M:=52);refine gc (cx:=cJ gl 52 pu hp) (rs:=[.tmp 6]) rfl Tryd.func80 rfl rfl rfl (by simp only[List.length_cons,List.length_nil];decide) ?_;simp only[bj,go_sem];have ⟨c0,c1,c2,hy⟩:=jd;have bM:= @gY;have ge:=h81 b hb;have oke:=h111 (bJ b).1;have hgb:=(iZ b).1;have hgc:=(iZ b).2.2.1;refine Tr.w hcx [] _ [] rfl rfl rfl ?_ au;refine Tr.w hcx [] _ [] rfl rfl rfl ?_ au;refine aa fun K1 hK1=>?_;by_cases c0:e=0
 ·
  have c0o:=c0;replace c0:=eq_true c0;by_cases c1: (bJ b).2.2=0
  ·
   have c1o:=c1;replace c1:=eq_true c1;by_cases c2:fT (bJ b).1=true
   ·
    have c2o:=c2;have hR:bR (b,e) =_:=kH c0o c1o c2o;refine Tr.w hcx [] _ [] rfl rfl rfl ?_ au;refine aq rfl ?_;refine Tr.skip ?_;refine hK1 _ ?_;refine Tr.w hcx [1000024,1000025,1000026] _ [] rfl rfl rfl ?_ au;refine Tr.k [0,2,7,8,9,10] ?_;refine aa fun K2 hK2=>?_;refine Tr.w hcx [] [some 27,some 28,some 29,some 30,some 31,some 32,some 33,some 34] [] rfl rfl rfl ?_ au;refine aq rfl ?_;refine Tr.skip ?_;refine hK2 _ ?_;refine aa fun K3 hK3=>?_;refine Tr.w hcx [] _ [] rfl rfl rfl ?_ au;refine Tr.w hcx [] _ [] rfl rfl rfl ?_ au;refine aq rfl ?_;refine Tr.skip ?_;refine hK3 _ ?_;refine Tr.k [0,8,9] ?_;refine Tr.w hcx [] _ [] rfl rfl rfl ?_ au;refine Tr.w hcx [1000051] _ [] rfl rfl rfl ?_ au;exact Tr.ret eD
   have c2o:fT (bJ b).1=false:=(Bool.not_eq_true _).mp c2;replace c2:=c2o;have hR:bR (b,e) =_:=lr c0o c1o c2o;refine Tr.w hcx [] _ [] rfl rfl rfl ?_ au;refine aq rfl ?_;refine Tr.skip ?_;refine hK1 _ ?_;refine Tr.w hcx [1000024,1000025,1000026] _ [] rfl rfl rfl ?_ au;refine Tr.k [0,2,7,8,9,10] ?_;refine aa fun K4 hK4=>?_;refine Tr.w hcx [] [some 27,some 28,some 29,some 30,some 31,some 32,some 33,some 34] [] rfl rfl rfl ?_ au;refine aG rfl ?_;refine Tr.v hcx [] _ [] rfl rfl rfl ?_ au;refine hK4 _ ?_;refine aa fun K5 hK5=>?_;refine Tr.w hcx [] _ [] rfl rfl rfl ?_ au;refine Tr.w hcx [] _ [] rfl rfl rfl ?_ au;refine aG rfl ?_;refine Tr.w hcx [1000041] _ [] rfl rfl rfl ?_ au;exact Tr.ret eD
  have c1o:=c1;replace c1:=eq_false c1;have c2:=True.intro;have hR:bR (b,e) =_:=kG c0o c1o;refine Tr.w hcx [] _ [] rfl rfl rfl ?_ au;refine aq rfl ?_;refine Tr.skip ?_;refine hK1 _ ?_;refine Tr.w hcx [1000024,1000025,1000026] _ [] rfl rfl rfl ?_ au;refine Tr.k [0,2,7,8,9,10] ?_;refine aa fun K6 hK6=>?_;refine Tr.w hcx [] [some 27,some 28,some 29,some 30,some 31,some 32,some 33,some 34] [] rfl rfl rfl ?_ au;refine aq rfl ?_;refine Tr.skip ?_;refine hK6 _ ?_;refine aa fun K7 hK7=>?_;refine Tr.w hcx [] _ [] rfl rfl rfl ?_ au;refine Tr.w hcx [] _ [] rfl rfl rfl ?_ au;refine aG rfl ?_;refine Tr.w hcx [1000041] _ [] rfl rfl rfl ?_ au;exact Tr.ret eD
 have c0o:=c0;replace c0:=eq_false c0;have ⟨c1,c2⟩:=fo;have hR:bR (b,e) =_:=mM c0o;refine Tr.w hcx [] _ [] rfl rfl rfl ?_ au;refine aG rfl ?_;refine Tr.w hcx [1000016] _ [] rfl rfl rfl ?_ au;exact Tr.ret eD
theorem ZC {gl:Nat→C}{M0:Nat}{pu:Nat→List C→Option C}{hp:Nat→List C→Hp→Option (C×Hp)}(hcx:CxOK (cJ gl M0 pu hp))(b:List UInt8)(e:Nat)(hb:b.length< 1099511627776)(he:e≤10)(h109:∀b:List UInt8,b.length< 1099511627776→pu 109 [sl bC .no b] =some (.tup [sl iC .no (aS ab 1 b).1,.val (nI (aS ab 1 b).2.1),.val (nI (aS ab 1 b).2.2)]))(h110:∀l:List Int,l.length< 1099511627776→pu 110 [sl iC .no l] =some (.val (.bool (f5 l)))):FC Tryd.prog gl 108 [.bp 0 0,.fn 109 [],.fn 110 []] [some [sl bC .no b,.val (nI e)]] (sl iC .no (dH (b,e)).1) [some (rC (dH (b,e)).2)]:=by
 replace hcx:=hcx.reN (M:=52);refine gc (cx:=cJ gl 52 pu hp) (rs:=[.tmp 6]) rfl Tryd.func108 rfl rfl rfl (by simp only[List.length_cons,List.length_nil];decide) ?_;simp only[bj,go_sem];have ⟨c0,c1,c2,hy⟩:=jd;have bM:= @gY;have ge:=h109 b hb;have oke:=h110 (aS ab 1 b).1 (by have:=qZ b;omega);have hgb:=lS b;have hgc:=kI b;refine Tr.w hcx [] _ [] rfl rfl rfl ?_ au;refine Tr.w hcx [] _ [] rfl rfl rfl ?_ au;refine aa fun K1 hK1=>?_;by_cases c0:e=0
 ·
  have c0o:=c0;replace c0:=eq_true c0;by_cases c1: (aS ab 1 b).2.2=0
  ·
   have c1o:=c1;replace c1:=eq_true c1;by_cases c2:f5 (aS ab 1 b).1=true
   ·
    have c2o:=c2;have hR:dH (b,e) =_:=kH c0o c1o c2o;refine Tr.w hcx [] _ [] rfl rfl rfl ?_ au;refine aq rfl ?_;refine Tr.skip ?_;refine hK1 _ ?_;refine Tr.w hcx [1000024,1000025,1000026] _ [] rfl rfl rfl ?_ au;refine Tr.k [0,2,7,8,9,10] ?_;refine aa fun K2 hK2=>?_;refine Tr.w hcx [] [some 27,some 28,some 29,some 30,some 31,some 32,some 33,some 34] [] rfl rfl rfl ?_ au;refine aq rfl ?_;refine Tr.skip ?_;refine hK2 _ ?_;refine aa fun K3 hK3=>?_;refine Tr.w hcx [] _ [] rfl rfl rfl ?_ au;refine Tr.w hcx [] _ [] rfl rfl rfl ?_ au;refine aq rfl ?_;refine Tr.skip ?_;refine hK3 _ ?_;refine Tr.k [0,8,9] ?_;refine Tr.w hcx [] _ [] rfl rfl rfl ?_ au;refine Tr.w hcx [1000051] _ [] rfl rfl rfl ?_ au;first| (refine Tr.live [(6,sl iC .no [])] ?_ ?_;exact ⟨CLe.nil _,trivial⟩) |skip
    exact Tr.ret eD
   have c2o:f5 (aS ab 1 b).1=false:=(Bool.not_eq_true _).mp c2;replace c2:=c2o;have hR:dH (b,e) =_:=lr c0o c1o c2o;refine Tr.w hcx [] _ [] rfl rfl rfl ?_ au;refine aq rfl ?_;refine Tr.skip ?_;refine hK1 _ ?_;refine Tr.w hcx [1000024,1000025,1000026] _ [] rfl rfl rfl ?_ au;refine Tr.k [0,2,7,8,9,10] ?_;refine aa fun K4 hK4=>?_;refine Tr.w hcx [] [some 27,some 28,some 29,some 30,some 31,some 32,some 33,some 34] [] rfl rfl rfl ?_ au;refine aG rfl ?_;refine Tr.v hcx [] _ [] rfl rfl rfl ?_ au;refine hK4 _ ?_;refine aa fun K5 hK5=>?_;refine Tr.w hcx [] _ [] rfl rfl rfl ?_ au;refine Tr.w hcx [] _ [] rfl rfl rfl ?_ au;refine aG rfl ?_;refine Tr.w hcx [1000041] _ [] rfl rfl rfl ?_ au;first| (refine Tr.live [(6,sl iC .no [])] ?_ ?_;exact ⟨CLe.nil _,trivial⟩) |skip
   exact Tr.ret eD
  have c1o:=c1;replace c1:=eq_false c1;have c2:=True.intro;have hR:dH (b,e) =_:=kG c0o c1o;refine Tr.w hcx [] _ [] rfl rfl rfl ?_ au;refine aq rfl ?_;refine Tr.skip ?_;refine hK1 _ ?_;refine Tr.w hcx [1000024,1000025,1000026] _ [] rfl rfl rfl ?_ au;refine Tr.k [0,2,7,8,9,10] ?_;refine aa fun K6 hK6=>?_;refine Tr.w hcx [] [some 27,some 28,some 29,some 30,some 31,some 32,some 33,some 34] [] rfl rfl rfl ?_ au;refine aq rfl ?_;refine Tr.skip ?_;refine hK6 _ ?_;refine aa fun K7 hK7=>?_;refine Tr.w hcx [] _ [] rfl rfl rfl ?_ au;refine Tr.w hcx [] _ [] rfl rfl rfl ?_ au;refine aG rfl ?_;refine Tr.w hcx [1000041] _ [] rfl rfl rfl ?_ au;first| (refine Tr.live [(6,sl iC .no [])] ?_ ?_;exact ⟨CLe.nil _,trivial⟩) |skip
  exact Tr.ret eD
 have c0o:=c0;replace c0:=eq_false c0;have ⟨c1,c2⟩:=fo;have hR:dH (b,e) =_:=mM c0o;refine Tr.w hcx [] _ [] rfl rfl rfl ?_ au;refine aG rfl ?_;refine Tr.w hcx [1000016] _ [] rfl rfl rfl ?_ au;first| (refine Tr.live [(6,sl iC .no [])] ?_ ?_;exact ⟨CLe.nil _,trivial⟩) |skip
 exact Tr.ret eD
theorem WE {gl:Nat→C}{M0:Nat}{pu:Nat→List C→Option C}{hp:Nat→List C→Hp→Option (C×Hp)}(hcx:CxOK (cJ gl M0 pu hp))(b:List UInt8)(e:Nat)(hb:b.length< 1099511627776)(he:e≤10)(h109:∀b:List UInt8,b.length< 1099511627776→pu 109 [sl bC .no b] =some (.tup [sl iC .no (aS ab 1 b).1,.val (nI (aS ab 1 b).2.1),.val (nI (aS ab 1 b).2.2)]))(h112:∀l:List Int,l.length< 1099511627776→pu 112 [sl iC .no l] =some (.val (.bool (f3 l)))):FC Tryd.prog gl 108 [.bp 0 0,.fn 109 [],.fn 112 []] [some [sl bC .no b,.val (nI e)]] (sl iC .no (eU (b,e)).1) [some (rC (eU (b,e)).2)]:=by
 replace hcx:=hcx.reN (M:=52);refine gc (cx:=cJ gl 52 pu hp) (rs:=[.tmp 6]) rfl Tryd.func108 rfl rfl rfl (by simp only[List.length_cons,List.length_nil];decide) ?_;simp only[bj,go_sem];have ⟨c0,c1,c2,hy⟩:=jd;have bM:= @gY;have ge:=h109 b hb;have oke:=h112 (aS ab 1 b).1 (by have:=qZ b;omega);have hgb:=lS b;have hgc:=kI b;refine Tr.w hcx [] _ [] rfl rfl rfl ?_ au;refine Tr.w hcx [] _ [] rfl rfl rfl ?_ au;refine aa fun K1 hK1=>?_;by_cases c0:e=0
 ·
  have c0o:=c0;replace c0:=eq_true c0;by_cases c1: (aS ab 1 b).2.2=0
  ·
   have c1o:=c1;replace c1:=eq_true c1;by_cases c2:f3 (aS ab 1 b).1=true
   ·
    have c2o:=c2;have hR:eU (b,e) =_:=kH c0o c1o c2o;refine Tr.w hcx [] _ [] rfl rfl rfl ?_ au;refine aq rfl ?_;refine Tr.skip ?_;refine hK1 _ ?_;refine Tr.w hcx [1000024,1000025,1000026] _ [] rfl rfl rfl ?_ au;refine Tr.k [0,2,7,8,9,10] ?_;refine aa fun K2 hK2=>?_;refine Tr.w hcx [] [some 27,some 28,some 29,some 30,some 31,some 32,some 33,some 34] [] rfl rfl rfl ?_ au;refine aq rfl ?_;refine Tr.skip ?_;refine hK2 _ ?_;refine aa fun K3 hK3=>?_;refine Tr.w hcx [] _ [] rfl rfl rfl ?_ au;refine Tr.w hcx [] _ [] rfl rfl rfl ?_ au;refine aq rfl ?_;refine Tr.skip ?_;refine hK3 _ ?_;refine Tr.k [0,8,9] ?_;refine Tr.w hcx [] _ [] rfl rfl rfl ?_ au;refine Tr.w hcx [1000051] _ [] rfl rfl rfl ?_ au;first| (refine Tr.live [(6,sl iC .no [])] ?_ ?_;exact ⟨CLe.nil _,trivial⟩) |skip
    exact Tr.ret eD
   have c2o:f3 (aS ab 1 b).1=false:=(Bool.not_eq_true _).mp c2;replace c2:=c2o;have hR:eU (b,e) =_:=lr c0o c1o c2o;refine Tr.w hcx [] _ [] rfl rfl rfl ?_ au;refine aq rfl ?_;refine Tr.skip ?_;refine hK1 _ ?_;refine Tr.w hcx [1000024,1000025,1000026] _ [] rfl rfl rfl ?_ au;refine Tr.k [0,2,7,8,9,10] ?_;refine aa fun K4 hK4=>?_;refine Tr.w hcx [] [some 27,some 28,some 29,some 30,some 31,some 32,some 33,some 34] [] rfl rfl rfl ?_ au;refine aG rfl ?_;refine Tr.v hcx [] _ [] rfl rfl rfl ?_ au;refine hK4 _ ?_;refine aa fun K5 hK5=>?_;refine Tr.w hcx [] _ [] rfl rfl rfl ?_ au;refine Tr.w hcx [] _ [] rfl rfl rfl ?_ au;refine aG rfl ?_;refine Tr.w hcx [1000041] _ [] rfl rfl rfl ?_ au;first| (refine Tr.live [(6,sl iC .no [])] ?_ ?_;exact ⟨CLe.nil _,trivial⟩) |skip
   exact Tr.ret eD
  have c1o:=c1;replace c1:=eq_false c1;have c2:=True.intro;have hR:eU (b,e) =_:=kG c0o c1o;refine Tr.w hcx [] _ [] rfl rfl rfl ?_ au;refine aq rfl ?_;refine Tr.skip ?_;refine hK1 _ ?_;refine Tr.w hcx [1000024,1000025,1000026] _ [] rfl rfl rfl ?_ au;refine Tr.k [0,2,7,8,9,10] ?_;refine aa fun K6 hK6=>?_;refine Tr.w hcx [] [some 27,some 28,some 29,some 30,some 31,some 32,some 33,some 34] [] rfl rfl rfl ?_ au;refine aq rfl ?_;refine Tr.skip ?_;refine hK6 _ ?_;refine aa fun K7 hK7=>?_;refine Tr.w hcx [] _ [] rfl rfl rfl ?_ au;refine Tr.w hcx [] _ [] rfl rfl rfl ?_ au;refine aG rfl ?_;refine Tr.w hcx [1000041] _ [] rfl rfl rfl ?_ au;first| (refine Tr.live [(6,sl iC .no [])] ?_ ?_;exact ⟨CLe.nil _,trivial⟩) |skip
  exact Tr.ret eD
 have c0o:=c0;replace c0:=eq_false c0;have ⟨c1,c2⟩:=fo;have hR:eU (b,e) =_:=mM c0o;refine Tr.w hcx [] _ [] rfl rfl rfl ?_ au;refine aG rfl ?_;refine Tr.w hcx [1000016] _ [] rfl rfl rfl ?_ au;first| (refine Tr.live [(6,sl iC .no [])] ?_ ?_;exact ⟨CLe.nil _,trivial⟩) |skip
 exact Tr.ret eD
theorem F9 {α:Type}[Inhabited α]{a b:List α}(h:a.length=b.length)(hn:∀j,j< a.length→gt a j=gt b j):a=b:=by
 apply List.ext_getElem h;intro i h1 h2;have:=hn i h1;simpa[gt,List.getD,List.getElem?_eq_getElem h1,List.getElem?_eq_getElem h2] using this
theorem ub {α:Type}[Inhabited α]{a b:List α}{j:Nat}(h:¬gt a j=gt b j):¬a=b:=fun e=>h (by rw[e])
theorem Ga {α:Type}{a b:List α}(h:¬a.length=b.length):¬a=b:=fun e=>h (by rw[e])
def SP (p:aI):Prop:=p.2.2.2.2.length< 1099511627776
def SA (A:dG):Prop:=A.2.length< 1099511627776∧∀p,p∈A.2→SP p
def SV (V:bE):Prop:=V.length< 1099511627776∧∀A,A∈V→SA A
def uc (w:ah):Prop:=w.length< 1099511627776∧∀V,V∈w→SV V
theorem WK {A B:dG}(h1:A.1=B.1)(h2:A.2=B.2):A=B:=Prod.ext h1 h2
theorem AB {l:List aI}{i:Nat}(h:i< l.length):gt l i=l[i]:=by simp[gt,List.getD,List.getElem?_eq_getElem h]
theorem Kj {a b:List aI}(h:a.length=b.length)(hn:∀j,j< a.length→gt a j=gt b j):a=b:=by
 refine List.ext_getElem h fun i h1 h2=>?_;have:=hn i h1
 rwa [AB h1,AB h2] at this
noncomputable instance dlP (a b:List aI):Decidable (a=b):=Classical.propDecidable _
end Go.Sx
