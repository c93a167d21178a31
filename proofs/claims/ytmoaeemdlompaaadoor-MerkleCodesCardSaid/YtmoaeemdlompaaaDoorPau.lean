/-
   And what follows.
-/
import Derived.Test.YtmoaeemdlompaaaDoorPat
import Derived.Test.YtmoaeemdlompaaaDoorPar
import Derived.Test.YtmoaeemdlompaaaDoorPap
import Derived.Test.YtmoaeemdlompaaaDoorPaq
set_option linter.unusedSimpArgs false
set_option linter.unusedVariables false
namespace Go.Sx
open Go.RowKit Go.Proofs
def dn (l:List ab):List (List UInt8):=l.flatMap fun x=>[x.1,x.2]
def dv (p:fB):List UInt8:=(bV [p.1,p.2.1]++cf (dn p.2.2.1))++db p.2.2.2
def mT:List (List UInt8)→List ab
 |a::b::r=>(a,b)::mT r
 |_=>[]
def mU:fB:=(0,0,[],[])
def cL (b:List UInt8):=aX ag 1 b
def cS (b:List UInt8):=aX bn 1 (b.drop (cL b).2.1)
def f7 (b:List UInt8):=aX b8 16 (b.drop ((cL b).2.1+(cS b).2.1))
def bF (b:List UInt8):fB×Nat×Nat:=
 if (cL b).2.2≠0 then (mU,0,(cL b).2.2) else
 if (cL b).1.length≠2 then (mU,0,2) else
 if (cS b).2.2≠0 then (mU,0,(cS b).2.2) else
 if (cS b).1.length % 2≠0 then (mU,0,2) else
 if (f7 b).2.2≠0 then (mU,0,(f7 b).2.2) else
 ((gt (cL b).1 0,gt (cL b).1 1,mT (cS b).1,(f7 b).1),(cL b).2.1+(cS b).2.1+(f7 b).2.1,0)
theorem xA {b:List UInt8}(h: (cL b).2.2≠0):bF b= (mU,0,(cL b).2.2):=by unfold bF;rw[if_pos h]
theorem Ey {b:List UInt8}(h: (cL b).2.2=0)(h2: (cL b).1.length≠2):bF b= (mU,0,2):=by unfold bF;rw[if_neg (by omega),if_pos h2]
theorem xB {b:List UInt8}(h: (cL b).2.2=0)(h2: (cL b).1.length=2)(h3: (cS b).2.2≠0):bF b= (mU,0,(cS b).2.2):=by unfold bF;rw[if_neg (by omega),if_neg (by omega),if_pos h3]
theorem Ez {b:List UInt8}(h: (cL b).2.2=0)(h2: (cL b).1.length=2)(h3: (cS b).2.2=0)(h4: (cS b).1.length % 2≠0):bF b= (mU,0,2):=by unfold bF;rw[if_neg (by omega),if_neg (by omega),if_neg (by omega),if_pos h4]
theorem xC {b:List UInt8}(h: (cL b).2.2=0)(h2: (cL b).1.length=2)(h3: (cS b).2.2=0)(h4: (cS b).1.length % 2=0)(h5: (f7 b).2.2≠0):bF b= (mU,0,(f7 b).2.2):=by unfold bF;rw[if_neg (by omega),if_neg (by omega),if_neg (by omega),if_neg (by omega),if_pos h5]
theorem xD {b:List UInt8}(h: (cL b).2.2=0)(h2: (cL b).1.length=2)(h3: (cS b).2.2=0)(h4: (cS b).1.length % 2=0)(h5: (f7 b).2.2=0):bF b= ((gt (cL b).1 0,gt (cL b).1 1,mT (cS b).1,(f7 b).1),(cL b).2.1+(cS b).2.1+(f7 b).2.1,0):=by unfold bF;rw[if_neg (by omega),if_neg (by omega),if_neg (by omega),if_neg (by omega),if_neg (by omega)]
theorem sV (x:ab)(l:List ab):dn (x::l) =x.1::x.2::dn l:=rfl
theorem Ha:∀l:List ab,mT (dn l) =l
 | [] =>rfl
 |x::l=>by rw[sV];show (x.1,x.2)::mT (dn l) =_;rw[Ha l]
theorem nF:∀l:List ab,(dn l).length=2*l.length
 | [] =>rfl
 |x::l=>by rw[sV];simp only[List.length_cons,nF l];omega
theorem VE {l:List ab}{n:Nat}(h:∀x∈l,x.1.length≤n∧x.2.length≤n):∀y∈dn l,y.length≤n:=by
 intro y hy
 obtain ⟨x,hx,q⟩:=List.mem_flatMap.1 hy
 have:=h x hx
 rcases List.mem_cons.1 q with rfl|q
 . exact this.1
 . rw[List.mem_singleton.1 q];exact this.2
theorem PB.fl {n:Nat}{p:fB}(h:PB n p): (dn p.2.2.1).length≤2*n∧∀y∈dn p.2.2.1,y.length≤n:=⟨by rw[nF];have:=h.2.2.1;omega,VE (lZ.1 h.2.2.2.1)⟩
section
variable {n:Nat} {p:fB} (h:PB n p) (hn:n≤1000000)
include h hn
theorem enI (t:List UInt8):aX ag 1 (bV [p.1,p.2.1]++t) = ([p.1,p.2.1],(bV [p.1,p.2.1]).length,0):=
 have _:=hn
 JF _ t (by simp only[List.length_cons,List.length_nil];omega) (by
  intro x hx
  rcases List.mem_cons.1 hx with rfl|hx
  . exact h.1
  . rw[List.mem_singleton.1 hx];exact h.2.1)
theorem enS (t:List UInt8):aX bn 1 (cf (dn p.2.2.1)++t) = (dn p.2.2.1,(cf (dn p.2.2.1)).length,0):=
 JG _ t (by have:=h.fl.1;omega) (fun x hx=>by have:=h.fl.2 x hx;omega)
theorem enD (t:List UInt8):aX b8 16 (db p.2.2.2++t) = (p.2.2.2,(db p.2.2.2).length,0):=
 JH _ t (by have:=h.2.2.2.2;omega)
omit h hn in
theorem NU {a t:List UInt8}: (a++t).drop a.length=t:=by simp
theorem wx (a b c:List UInt8)(hb:b=bV [p.1,p.2.1]++a):cL b= ([p.1,p.2.1],(bV [p.1,p.2.1]).length,0)∧cS b=aX bn 1 a:=by
 have e:cL b= ([p.1,p.2.1],(bV [p.1,p.2.1]).length,0):=by rw[hb];exact enI h hn a
 refine ⟨e,?_⟩
 unfold cS
 rw[e,hb]
 exact congrArg _ NU
theorem tR (a b:List UInt8)(hb:b=bV [p.1,p.2.1]++(cf (dn p.2.2.1)++a)):cL b= ([p.1,p.2.1],(bV [p.1,p.2.1]).length,0)∧cS b= (dn p.2.2.1,(cf (dn p.2.2.1)).length,0)∧f7 b=aX b8 16 a:=by
 obtain ⟨e1,e2⟩:=wx h hn _ b [] hb
 rw[enS h hn a] at e2
 refine ⟨e1,e2,?_⟩
 unfold f7
 rw[e1,e2,hb]
 show aX b8 16 ((bV [p.1,p.2.1]++(cf (dn p.2.2.1)++a)).drop ((bV [p.1,p.2.1]).length+(cf (dn p.2.2.1)).length)) =_
 rw[←List.append_assoc,←List.length_append]
 exact congrArg _ NU
theorem J4 (t:List UInt8):bF (dv p++t) = (p,(dv p).length,0):=by
 have hb:dv p++t=bV [p.1,p.2.1]++(cf (dn p.2.2.1)++(db p.2.2.2++t)):=by unfold dv;simp only[List.append_assoc]
 obtain ⟨e1,e2,e3⟩:=tR h hn _ _ hb
 rw[enD h hn t] at e3
 rw[xD (by rw[e1]) (by rw[e1];rfl) (by rw[e2]) (by rw[e2];simp only[];rw[nF];omega) (by rw[e3]),e1,e2,e3]
 simp only[Ha]
 refine Prod.ext ?_ (Prod.ext ?_ rfl)
 . rfl
 . unfold dv;simp only[List.length_append]
theorem J5 (i:Nat)(hi:i< (dv p).length): (bF ((dv p).take i)).2.2≠0:=by
 have hl: (dv p).length= (bV [p.1,p.2.1]).length+((cf (dn p.2.2.1)).length+(db p.2.2.2).length):=by unfold dv;simp only[List.length_append];omega
 have ha:dv p=bV [p.1,p.2.1]++(cf (dn p.2.2.1)++db p.2.2.2):=by unfold dv;rw[List.append_assoc]
 by_cases h1:i< (bV [p.1,p.2.1]).length
 . have e: (cL ((dv p).take i)).2.2=3:=by
    rw[ha,List.take_append_of_le_length (by omega)]
    refine JM _ (by simp only[List.length_cons,List.length_nil];omega) ?_ i h1
    intro x hx
    rcases List.mem_cons.1 hx with rfl|hx
    . exact h.1
    . rw[List.mem_singleton.1 hx];exact h.2.1
   rw[xA (by rw[e];decide),e];decide
 . obtain ⟨j,rfl⟩:∃j,i= (bV [p.1,p.2.1]).length+j:=⟨i - (bV [p.1,p.2.1]).length,by omega⟩
   by_cases h2:j< (cf (dn p.2.2.1)).length
   . have hb: (dv p).take ((bV [p.1,p.2.1]).length+j) =bV [p.1,p.2.1]++(cf (dn p.2.2.1)).take j:=by
      rw[ha,List.take_length_add_append,List.take_append_of_le_length (by omega)]
     obtain ⟨e1,e2⟩:=wx h hn _ _ [] hb
     have e3: (cS ((dv p).take ((bV [p.1,p.2.1]).length+j))).2.2=3:=by
      rw[e2]
      exact JN _ (by have:=h.fl.1;omega) (fun x hx=>by have:=h.fl.2 x hx;omega) j h2
     rw[xB (by rw[e1]) (by rw[e1];rfl) (by rw[e3];decide),e3];decide
   . obtain ⟨k,rfl⟩:∃k,j= (cf (dn p.2.2.1)).length+k:=⟨j - (cf (dn p.2.2.1)).length,by omega⟩
     have hb: (dv p).take ((bV [p.1,p.2.1]).length+((cf (dn p.2.2.1)).length+k)) =bV [p.1,p.2.1]++(cf (dn p.2.2.1)++(db p.2.2.2).take k):=by
      rw[ha,List.take_length_add_append,List.take_length_add_append]
     obtain ⟨e1,e2,e3⟩:=tR h hn _ _ hb
     have e4: (f7 ((dv p).take ((bV [p.1,p.2.1]).length+((cf (dn p.2.2.1)).length+k)))).2.2=3:=by
      rw[e3]
      exact JL _ (by have:=h.2.2.2.2;omega) k (by omega)
     rw[xC (by rw[e1]) (by rw[e1];rfl) (by rw[e2]) (by rw[e2];simp only[];rw[nF];omega) (by rw[e4];decide),e4];decide
end
theorem QP (p:fB):0< (dv p).length:=by
 unfold dv bV
 have:=od ([p.1,p.2.1].length:Nat)
 simp only[List.length_append];omega
theorem C2 (l:List ab)(i:Nat)(h:i< l.length):dn (l.take i)++[(gt l i).1,(gt l i).2] =dn (l.take (i+1)):=by
 unfold dn;exact g6 _ l i h
theorem zT {n:Nat}:∀ {l:List ab},(∀x∈l,x.1.length≤n∧x.2.length≤n)→(dn l).flatten.length≤2*n*l.length
 | [],_=>by simp[dn]
 |x::l,h=>by
  have h1:=h x (List.mem_cons_self ..)
  have h2:=zT (l:=l) fun y hy=>h y (List.mem_cons_of_mem _ hy)
  rw[sV]
  simp only[List.flatten_cons,List.length_append,List.length_cons]
  rw[Nat.mul_add,Nat.mul_one];omega
theorem zU {l:List (List UInt8)}(hl:l.length< 1099511627776)(hf:l.flatten.length< 1099511627776): (cf l).length≤9+9*l.length+l.flatten.length:=by
 have h1:=d8 l.length (by omega)
 have h2:=sr l hf l.length (Nat.le_refl _)
 rw[List.take_length] at h2
 unfold cf
 rw[List.length_append];omega
theorem vl (f z:Int)(hf:fo f)(hz:fo z): (bV [f,z]).length≤27:=by
 have h1:=gJ f hf
 have h2:=gJ z hz
 have h3:=d8 ([f,z].length) (by simp)
 unfold bV
 simp only[List.length_append,List.flatMap_cons,List.flatMap_nil,List.append_nil] at h3 ⊢
 omega
theorem Hb (S:List ba)(h:S.length< 1099511627776): (db S).length≤9+16*S.length:=by
 have h1:=d8 S.length (by omega)
 have h2:=oa S S.length (Nat.le_refl _)
 rw[List.take_length] at h2
 unfold db
 rw[List.length_append];omega
theorem PB.enc {p:fB}(h:PB 10000 p): (dn p.2.2.1).length≤20000∧(dn p.2.2.1).flatten.length≤200000000∧(bV [p.1,p.2.1]).length≤27∧(cf (dn p.2.2.1)).length≤300000000∧(db p.2.2.2).length≤200000∧(dv p).length≤400000000:=by
 have h1:=h.fl.1
 have h2:=zT (n:=10000) (lZ.1 h.2.2.2.1)
 have hl:=h.2.2.1
 have hs:=h.2.2.2.2
 have h3:=zU (l:=dn p.2.2.1) (by omega) (by omega)
 have h4:=vl p.1 p.2.1 h.1 h.2.1
 have h5:=Hb p.2.2.2 (by omega)
 have h6: (dv p).length= (bV [p.1,p.2.1]).length+(cf (dn p.2.2.1)).length+(db p.2.2.2).length:=by unfold dv;simp only[List.length_append]
 omega
end Go.Sx
namespace Go.Sx
open Go.RowKit Go.Proofs
set_option maxRecDepth 100000
set_option maxHeartbeats 8000000
end Go.Sx
namespace Go.Sx
open Go.RowKit Go.Proofs
set_option maxRecDepth 100000
set_option maxHeartbeats 8000000
end Go.Sx
namespace Go.Sx
open Go.RowKit Go.Proofs
set_option maxRecDepth 100000
set_option maxHeartbeats 8000000
theorem EA (x y:Int): (((List.map Int.ofNat (List.replicate 2 0)).set 0 x).set 1 y) = [x,y]:=rfl
theorem J6 (x y:List UInt8): (((List.replicate 2 []).set 0 x).set 1 y) = [x,y]:=rfl
theorem jN {p:Prop}(e:p:=by intro KZ hZ;simp -implicitDefEqProofs (disch:=first|omega| (simp only[go_sem,lA,lD,lT,hen,hpl,hps,hx1,List.length_map] <;>omega) |decide) only[go_sem,↓reduceIte,Nat.reduceEqDiff,reduceCtorEq,Nat.reduceLT,Nat.reduceBEq,Nat.reduceAdd,eI,eS,eD,EA,J6,hy];with_reducible exact hZ):p:=e
theorem VK {p:Prop}(e:p:=by simp -implicitDefEqProofs (disch:=first|omega| (simp only[go_sem,lA,lD,lT,hen,hpl,hps,hx1,List.length_map] <;>omega) |decide) only[go_sem,↓reduceIte,Nat.reduceEqDiff,reduceCtorEq];all_goals (rfl)):p:=e
theorem agI {gl:Nat→C}{M:Nat}{pu:Nat→List C→Option C}(hcx:CxOK (af gl M pu))(h45:∀ (l:List Int),l.length< 1099511627776→(∀x∈l,-9223372036854775808≤x∧x≤9223372036854775807)→pu 45 [sl iC .no l] =some (sl bC (.own 1) (bV l)))(h46:∀ (l:List (List UInt8)),l.length< 1099511627776→l.flatten.length< 1099511627776→pu 46 [sl sC .no l] =some (sl bC (.own 1) (cf l)))(h66:∀ (l:List ba),l.length< 1099511627776→pu 66 [sl dC .no l] =some (sl bC (.own 1) (db l)))(p:fB)(hp:PB 10000 p):FC Tryd.prog gl 40 [.agg [.val (.int .i64 p.1),.val (.int .i64 p.2.1),sl eC .no p.2.2.1,sl dC .no p.2.2.2]] [] (sl bC (.own 1) (dv p)) []:=by
 replace hcx:=hcx.reN (M:=36)
 refine aB (cx:=af gl 36 pu) (rs:=[.tmp 2]) rfl Tryd.func40 rfl rfl rfl (by simp only[List.length_cons,List.length_nil];decide) (by simp only[go_sem]) ?_
 simp only[bq,go_sem]
 have hy:=True.intro
 have hen:=hp.enc
 have hpl:=hp.2.2.1
 have hps:=hp.2.2.2.2
 have hx1:=True.intro
 have eI:=h45 [p.1,p.2.1] (by simp only[List.length_cons,List.length_nil];omega) (by
  intro x hx
  rcases List.mem_cons.1 hx with rfl|hx
  . exact hp.1
  . rw[List.mem_singleton.1 hx];exact hp.2.1)
 have eS:=h46 (dn p.2.2.1) (by omega) (by omega)
 have eD:=h66 p.2.2.2 (by omega)
 refine Tr.w hcx [] _ [none] rfl rfl rfl ?_ jN
 refine bW hcx 0 [.val (.int .i64 p.1),.val (.int .i64 p.2.1),sl eC .no p.2.2.1,sl dC .no p.2.2.2] ?_
 refine oY hcx [] ?_
 refine Tr.w hcx [] _ [] rfl rfl rfl ?_ jN
 refine aa fun K1 hK1=>?_
 refine Tr.w hcx [] _ [] rfl rfl rfl ?_ jN
 refine Tr.k [1,3,8,9,10] ?_
 refine Tr.blk ?_
 refine tl hcx (α:=Nat) (fun a=>[(1,?v1_1),(3,sl sC (.own 1) (dn (p.2.2.1.take a))),(8,?v8_1),(9,?v9_1),(10,.val (nI a))]) (fun a=>[]) (fun a=>a≤p.2.2.1.length) (fun a=>p.2.2.1.length - a) (0) (Nat.zero_le _) ?le_1 ?hh_1 ?bd_1
 case hh_1=>exact rfl
 case le_1=>(simp only[aZ,aK,↓aY,↓reduceIte,Nat.reduceEqDiff,aC,aP,aD,aL,aQ,and_true,true_and];all_goals (repeat' first|exact CLe.refl _|exact True.intro| (refine an ?_;first|rfl| (simp only[List.take_zero];done)) |exact a7 (by omega) |exact ay (by omega) |exact aS (by omega) |exact aW (by omega) |with_reducible apply And.intro));all_goals exact aL
 rintro i hi
 refine Tr.w hcx [] _ [] rfl rfl rfl ?_ jN
 refine aa fun K2 hK2=>?_
 refine aq rfl (fun hc11=>?_) (fun hc11=>?_)
 ·
  have hx1: (dn (p.2.2.1.take i)).length≤20000:=by rw[nF,List.length_take];omega
  refine Tr.skip ?_
  refine hK2 _ ?_
  refine aa fun K3 hK3=>?_
  refine Tr.blk ?_
  have hy:= @T5
  refine Tr.w hcx [] _ [none] rfl rfl rfl ?_ jN
  have hy:=True.intro
  refine Tr.v hcx [14,1000020] _ [] rfl rfl rfl ?_ jN
  refine hK3 _ ?_
  refine Tr.v hcx [] _ [] rfl rfl rfl ?_ jN
  first
  | ((refine ⟨[],⟨by decide,by decide,by decide⟩,i+1,⟨(by omega),O1⟩,?_,by simp only[jl,fT,e8,jj,jk,Option.map_some,Option.map_none,gm,ji,fS,e7,g4,gj,gS,jd,je,jf,g5,jg,eT,eU,eV,eW,eX,eZ,gZ,fP,↓reduceIte,Nat.reduceEqDiff,reduceCtorEq,Nat.reduceAdd,Nat.zero_add,Nat.one_ne_zero,Nat.zero_ne_one,jh,jm,fa,fb,jn,fe,ff] <;>rfl⟩);(simp only[aZ,aK,↓aY,aC,aP,aD,aL,aQ,and_true,true_and,jl,fT,e8,jj,jk,Option.map_some,Option.map_none,gm,ji,fS,e7,g4,gj,gS,jd,je,jf,g5,jg,eT,eU,eV,eW,eX,eZ,gZ,fP,↓reduceIte,Nat.reduceEqDiff,reduceCtorEq,Nat.reduceAdd,Nat.zero_add,Nat.one_ne_zero,Nat.zero_ne_one,jh,jm,fa,fb,jn,fe,ff];all_goals (repeat' first|exact CLe.refl _|exact True.intro| (with_reducible refine And.intro ?_ ?_)));(all_goals (first|exact CLe.refl _| (rw[←C2 _ i hc11];exact CLe.refl _)));(done))
 obtain rfl:i=p.2.2.1.length:=by omega
 rw[List.take_length]
 refine Tr.exit ?_
 refine hK1 _ ?_
 refine Tr.w hcx [27,1000030] _ [] rfl rfl rfl ?_ jN
 refine Tr.w hcx [31,1000035] _ [] rfl rfl rfl ?_ jN
 exact Tr.ret VK
theorem l6 {p:Prop}(e:p:=by intro KZ hZ;simp -implicitDefEqProofs (disch:=first|omega| (simp only[go_sem,lA,lD,lT,hen,hpl,hps,hx1,List.length_map] <;>omega) |decide) only[go_sem,↓reduceIte,Nat.reduceEqDiff,reduceCtorEq,Nat.reduceLT,Nat.reduceBEq,Nat.reduceAdd,eI,eS,eD,EA,J6,hy];with_reducible exact hZ):p:=e
theorem VL {p:Prop}(e:p:=by intro KZ hZ;simp -implicitDefEqProofs (disch:=first|omega| (simp only[go_sem,lA,lD,lT,hen,hpl,hps,hx1,List.length_map] <;>omega) |decide) only[go_sem,↓reduceIte,Nat.reduceEqDiff,reduceCtorEq,Nat.reduceLT,Nat.reduceBEq,Nat.reduceAdd,eI,eS,eD,EA,J6,hy];with_reducible refine And.intro ?_ hZ;first|exact rfl|decide):p:=e
theorem VM {p:Prop}(e:p:=by simp -implicitDefEqProofs (disch:=first|omega| (simp only[go_sem,lA,lD,lT,hen,hpl,hps,hx1,List.length_map] <;>omega) |decide) only[go_sem,↓reduceIte,Nat.reduceEqDiff,reduceCtorEq];all_goals (rfl)):p:=e
theorem agJ {gl:Nat→C}{M:Nat}{pu:Nat→List C→Option C}(hcx:CxOK (af gl M pu))(h67:∀ (l:List Int),l.length< 1099511627776→(∀x∈l,-9223372036854775808≤x∧x≤9223372036854775807)→pu 67 [sl iC .no l] =some (sl bC (.own 1) (bV l)))(h68:∀ (l:List (List UInt8)),l.length< 1099511627776→l.flatten.length< 1099511627776→pu 68 [sl sC .no l] =some (sl bC (.own 1) (cf l)))(h69:∀ (l:List ba),l.length< 1099511627776→pu 69 [sl dC .no l] =some (sl bC (.own 1) (db l)))(p:fB)(hp:PB 10000 p):FC Tryd.prog gl 42 [.agg [.val (.int .i64 p.1),.val (.int .i64 p.2.1),sl eC .no p.2.2.1,sl dC .no p.2.2.2]] [] (sl bC (.own 1) (dv p)) []:=by
 replace hcx:=hcx.reN (M:=42)
 refine aB (cx:=af gl 42 pu) (rs:=[.tmp 2]) rfl Tryd.func42 rfl rfl rfl (by simp only[List.length_cons,List.length_nil];decide) (by simp only[go_sem]) ?_
 simp only[bq,go_sem]
 have hy:=True.intro
 have hen:=hp.enc
 have hpl:=hp.2.2.1
 have hps:=hp.2.2.2.2
 have hx1:=True.intro
 have eI:=h67 [p.1,p.2.1] (by simp only[List.length_cons,List.length_nil];omega) (by
  intro x hx
  rcases List.mem_cons.1 hx with rfl|hx
  . exact hp.1
  . rw[List.mem_singleton.1 hx];exact hp.2.1)
 have eS:=h68 (dn p.2.2.1) (by omega) (by omega)
 have eD:=h69 p.2.2.2 (by omega)
 refine Tr.w hcx [] _ [none] rfl rfl rfl ?_ l6
 refine bW hcx 0 [.val (.int .i64 p.1),.val (.int .i64 p.2.1),sl eC .no p.2.2.1,sl dC .no p.2.2.2] ?_
 refine oY hcx [] ?_
 refine Tr.w hcx [] _ [] rfl rfl rfl ?_ l6
 refine aa fun K1 hK1=>?_
 refine Tr.w hcx [] _ [] rfl rfl rfl ?_ l6
 refine Tr.k [1,3,4] ?_
 refine Tr.blk ?_
 refine aN (α:=Nat) (fun a=>[(1,?v1_1),(3,sl sC (.own 1) (dn (p.2.2.1.take a))),(4,.val (nI a))]) (fun a=>[]) (fun a=>a≤p.2.2.1.length) (fun a=>p.2.2.1.length - a) (0) (Nat.zero_le _) ?le_1 ?hh_1 ?bd_1
 case hh_1=>exact rfl
 case le_1=>(simp only[aZ,aK,↓aY,↓reduceIte,Nat.reduceEqDiff,aC,aP,aD,aL,aQ,and_true,true_and];all_goals (repeat' first|exact CLe.refl _|exact True.intro| (refine an ?_;first|rfl| (simp only[List.take_zero];done)) |exact a7 (by omega) |exact ay (by omega) |exact aS (by omega) |exact aW (by omega) |with_reducible apply And.intro));all_goals exact aL
 rintro i hi
 refine aa fun K2 hK2=>?_
 refine Tr.w hcx [] _ [] rfl rfl rfl ?_ l6
 refine aq rfl (fun hc10=>?_) (fun hc10=>?_)
 ·
  have hx1: (dn (p.2.2.1.take i)).length≤20000:=by rw[nF,List.length_take];omega
  refine Tr.skip ?_
  refine hK2 _ ?_
  refine aa fun K3 hK3=>?_
  refine Tr.blk ?_
  refine fA hcx ct [13,1000027] _ [] rfl rfl rfl rfl ?_ VL
  refine hK3 _ ?_
  refine Tr.k [1,3,4] ?_
  refine Tr.v hcx [1000012] _ [] rfl rfl rfl ?_ l6
  refine ⟨i+1,⟨(by omega),O1⟩,?_,rfl⟩
  (simp only[aZ,aK,↓aY,↓reduceIte,Nat.reduceEqDiff,aC,aP,aD,aL,aQ,and_true,true_and];all_goals (repeat' first|exact CLe.refl _|exact True.intro| (refine an ?_;first|rfl| (simp only[List.take_zero];done)) |exact a7 (by omega) |exact ay (by omega) |exact aS (by omega) |exact aW (by omega) |with_reducible apply And.intro))
  all_goals (rw[←C2 _ i hc10];exact CLe.refl _)
 obtain rfl:i=p.2.2.1.length:=by omega
 rw[List.take_length]
 refine Tr.exit ?_
 refine hK1 _ ?_
 refine Tr.w hcx [33,1000036] _ [] rfl rfl rfl ?_ l6
 refine Tr.w hcx [37,1000041] _ [] rfl rfl rfl ?_ l6
 exact Tr.ret VM
end Go.Sx
namespace Go.Sx
open Go.RowKit Go.Proofs
set_option maxRecDepth 100000
set_option maxHeartbeats 8000000
theorem JT {p:Prop}(e:p:=by intro KZ hZ;simp -implicitDefEqProofs (disch:=first|omega| (simp only[go_sem,lA,lD,lT] <;>omega) |decide) only[go_sem,↓reduceIte,Nat.reduceEqDiff,reduceCtorEq,Nat.reduceLT,Nat.reduceBEq,Nat.reduceAdd,hy];with_reducible exact hZ):p:=e
theorem aa9 {p:Prop}(e:p:=by simp -implicitDefEqProofs (disch:=first|omega| (simp only[go_sem,lA,lD,lT] <;>omega) |decide) only[go_sem,↓reduceIte,Nat.reduceEqDiff,reduceCtorEq];all_goals (first|exact ⟨trivial,trivial⟩ |trivial|rfl)):p:=e
theorem ajt {gl:Nat→C}{M:Nat}{pu:Nat→List C→Option C}(hcx:CxOK (af gl M pu))(b:List UInt8)(p:Nat):FC Tryd.prog gl 97 [sl bC .no b,.val (nI p)] [] (.fn 112 [.bp 0 0,.bp 1 0]) [some [sl bC .no b],some [.val (nI (p))]]:=by
 replace hcx:=hcx.reN (M:=6)
 refine I9 (cx:=af gl 6 pu) (rs:=[.tmp 4]) rfl Tryd.func97 rfl rfl rfl (by simp only[List.length_cons,List.length_nil];decide) ?_
 simp only[bq,go_sem]
 have hy:=True.intro
 refine Tr.w hcx [] _ [none,none] rfl rfl rfl ?_ JT
 refine Tr.w hcx [1000005] _ [] rfl rfl rfl ?_ JT
 exact Tr.ret aa9
theorem wt {p:Prop}(e:p:=by intro KZ hZ;simp -implicitDefEqProofs (disch:=first|omega| (simp only[go_sem,lA,lD,lT,hgb] <;>omega) |decide) only[go_sem,↓reduceIte,Nat.reduceEqDiff,reduceCtorEq,Nat.reduceLT,Nat.reduceBEq,Nat.reduceAdd,h111,hy];with_reducible exact hZ):p:=e
theorem T3 {p:Prop}(e:p:=by intro KZ hZ;simp -implicitDefEqProofs (disch:=first|omega| (simp only[go_sem,lA,lD,lT,hgb] <;>omega) |decide) only[go_sem,↓reduceIte,Nat.reduceEqDiff,reduceCtorEq,Nat.reduceLT,Nat.reduceBEq,Nat.reduceAdd,h111,hy];with_reducible refine And.intro ?_ hZ;first|exact rfl|decide):p:=e
theorem T4 {p:Prop}(e:p:=by simp -implicitDefEqProofs (disch:=first|omega| (simp only[go_sem,lA,lD,lT,hgb] <;>omega) |decide) only[go_sem,↓reduceIte,Nat.reduceEqDiff,reduceCtorEq];all_goals (first|exact ⟨trivial,trivial⟩ |trivial|rfl)):p:=e
theorem afv {gl:Nat→C}{M:Nat}{pu:Nat→List C→Option C}(hcx:CxOK (af gl M pu))(h111:∀b:List UInt8,b.length< 1099511627776→pu 111 [sl bC .no b] =some (.tup [.val (.int .i64 (ag b).1),.val (nI (ag b).2.1),.val (nI (ag b).2.2)]))(b:List UInt8)(p:Nat)(hb:b.length< 1099511627776)(hp:p≤b.length):FC Tryd.prog gl 112 [.bp 0 0,.bp 1 0] [some [sl bC .no b],some [.val (nI (p))]] (.tup [.val (.int .i64 (ag (b.drop p)).1),.val (nI (p+(ag (b.drop p)).2.1)),.val (nI (ag (b.drop p)).2.2)]) [some [sl bC .no b],some [.val (nI (p+(ag (b.drop p)).2.1))]]:=by
 replace hcx:=hcx.reN (M:=22)
 refine I9 (cx:=af gl 22 pu) (rs:=[.tmp 2,.tmp 3,.tmp 4]) rfl Tryd.func112 rfl rfl rfl (by simp only[List.length_cons,List.length_nil];decide) ?_
 simp only[bq,go_sem]
 have hy:=True.intro
 have hgb:=dQ (b.drop p)
 rw[List.length_drop] at hgb
 refine Tr.w hcx [] _ [] rfl rfl rfl ?_ wt
 refine Tr.w hcx [1000013,1000014,1000015] _ [] rfl rfl rfl ?_ wt
 refine Tr.w hcx [] _ [] rfl rfl rfl ?_ wt
 refine Tr.wD hcx ct [1000019,1000020,1000021] _ [] rfl rfl rfl rfl ?_ T3
 exact Tr.ret T4
theorem eO {p:Prop}(e:p:=by intro KZ hZ;simp -implicitDefEqProofs (disch:=first|omega| (simp only[go_sem,lA,lD,lT,hgb,hcl] <;>omega) |decide) only[go_sem,↓reduceIte,Nat.reduceEqDiff,reduceCtorEq,Nat.reduceLT,Nat.reduceBEq,Nat.reduceAdd,h96,h96e,p97,p112,q97,q112m,q112,hcE,hy];with_reducible exact hZ):p:=e
theorem CE {p:Prop}(e:p:=by simp -implicitDefEqProofs (disch:=first|omega| (simp only[go_sem,lA,lD,lT,hgb,hcl] <;>omega) |decide) only[go_sem,↓reduceIte,Nat.reduceEqDiff,reduceCtorEq];all_goals (first| (rw[gq hcE,←hst,zm (by omega) hc35];try rfl) | (rw[gq hcE,←hst];try rfl) | (rw[j5 hcE];try rfl))):p:=e
theorem aju {gl:Nat→C}{M:Nat}{pu:Nat→List C→Option C}{hp:Nat→List C→Hp→Option (C×Hp)}(hcx:CxOK (eR gl M pu hp))(h96w:∀ (b:List UInt8) (s:Nat),b.length< 1099511627776∧0< s∧s≤16→pu 96 [sl bC .no b,.val (nI s)] =some (lj b s))(p97:∀ (b:List UInt8) (p:Nat),pu 97 [sl bC .no b,.val (nI p)] =none)(p112:pu 112 [.bp 0 0,.bp 1 0] =none)(q97:∀ (b:List UInt8) (p:Nat),hp 97 [sl bC .no b,.val (nI p)] [] =some (.fn 112 [.bp 0 0,.bp 1 0],[some [sl bC .no b],some [.val (nI (p))]]))(m41:C×Hp)(q112m:hp 112 [.bp 0 0,.bp 1 0] [] =some m41)(q112:∀ (b:List UInt8) (p:Nat),b.length< 1099511627776∧p≤b.length→hp 112 [.bp 0 0,.bp 1 0] [some [sl bC .no b],some [.val (nI (p))]] =some (.tup [.val (.int .i64 (ag (b.drop p)).1),.val (nI (p+(ag (b.drop p)).2.1)),.val (nI (ag (b.drop p)).2.2)],[some [sl bC .no b],some [.val (nI (p+(ag (b.drop p)).2.1))]]))(b:List UInt8)(hb:b.length< 1099511627776):FC Tryd.prog gl 70 [sl bC .no b] [] (.tup [sl iC .no (aX ag 1 b).1,.val (nI (aX ag 1 b).2.1),.val (nI (aX ag 1 b).2.2)]) []:=by
 replace hcx:=hcx.reN (M:=45)
 refine aB (cx:=eR gl 45 pu hp) (rs:=[.tmp 2,.tmp 3,.tmp 4]) rfl Tryd.func70 rfl rfl rfl (by simp only[List.length_cons,List.length_nil];decide) (by simp only[go_sem]) ?_
 simp only[bq,go_sem]
 have hcE:=True.intro
 have hy:=True.intro
 have h96:∀ (b:List UInt8)(s:Nat),b.length< 1099511627776∧0< s∧s≤16∧bB b s=0→pu 96 [sl bC .no b,.val (nI s)] =some (.tup [.val (nI (cn b)),.val (nI (ca b)),.val (nI 0)]):=fun b s h=>(h96w b s ⟨h.1,h.2.1,h.2.2.1⟩).trans (by unfold lj;rw[if_pos h.2.2.2])
 have h96e:∀ (b:List UInt8)(s:Nat),b.length< 1099511627776∧0< s∧s≤16∧¬bB b s=0→pu 96 [sl bC .no b,.val (nI s)] =some (.tup [.val (.int .i64 (ag b).1),.val (nI (ag b).2.1),.val (nI (bB b s))]):=fun b s h=>(h96w b s ⟨h.1,h.2.1,h.2.2.1⟩).trans (by unfold lj;rw[if_neg h.2.2.2])
 have hgb:=dQ b
 have hcl:=jo b 1
 refine Tr.w hcx [] _ [] rfl rfl rfl ?_ eO
 by_cases hcE:bB b 1=0
 ·
  have hok:=gp (by decide) hcE
  refine Tr.w hcx [1000016,1000017,1000018] _ [] rfl rfl rfl ?_ eO
  refine aa fun K1 hK1=>?_
  refine Tr.w hcx [] _ [] rfl rfl rfl ?_ eO
  refine bc rfl ?_
  refine Tr.skip ?_
  refine hK1 _ ?_
  refine Tr.w hcx [1000024] _ [] rfl rfl rfl ?_ eO
  refine Tr.w hcx [] _ [] rfl rfl rfl ?_ eO
  refine aa fun K2 hK2=>?_
  refine Tr.w hcx [] _ [] rfl rfl rfl ?_ eO
  refine Tr.k [6,8,9,25,26] ?_
  refine Tr.blk ?_
  refine aN (α:=(Nat×Nat×List Int)) (fun a=>[(6,.val (nI a.2.1)),(8,?v8_1),(9,sl iC (.own 1) a.2.2),(25,?v25_1),(26,.val (nI a.1))]) (fun a=>[some [sl bC .no b],some [.val (nI (a.2.1))]]) (fun a=>a.1≤cn b∧a.2.1≤b.length∧a.2.2.length=a.1∧dI ag b (cn b - a.1) a.2.1 a.2.2=dI ag b (cn b) (ca b) []) (fun a=>cn b - a.1) ((0,ca b,[])) ?_ ?le_1 ?hh_1 ?bd_1
  case hh_1=>exact rfl
  case le_1=>exact LT
  . exact ⟨Nat.zero_le _,hok.2.2.2.2.1,rfl,rfl⟩
  rintro ⟨i,p,l⟩ ⟨hi,hp,hll,hst⟩
  dsimp only at*
  have hbd:=dQ (b.drop p)
  rw[List.length_drop] at hbd
  refine Tr.w hcx [] _ [] rfl rfl rfl ?_ eO
  refine aa fun K3 hK3=>?_
  refine aq rfl (fun hc27=>?_) (fun hc27=>?_)
  ·
   refine Tr.skip ?_
   refine hK3 _ ?_
   refine aa fun K4 hK4=>?_
   refine Tr.blk ?_
   refine Tr.w hcx [1000031,1000032,1000033] _ [] rfl rfl rfl ?_ eO
   refine aa fun K5 hK5=>?_
   refine Tr.w hcx [] _ [] rfl rfl rfl ?_ eO
   refine aq rfl (fun hc35=>?_) (fun hc35=>?_)
   ·
    refine Tr.w hcx [1000036] _ [] rfl rfl rfl ?_ eO
    first| (refine Tr.k [2,3,4] ?_;refine dZ iC .no (by decide) (by decide) (by decide) ?_) |skip
    exact Tr.ret CE
   refine Tr.skip ?_
   refine hK5 _ ?_
   refine Tr.v hcx [37,1000040,1000041] _ [] rfl rfl rfl ?_ eO
   refine hK4 _ ?_
   refine Tr.v hcx [] _ [] rfl rfl rfl ?_ eO
   exact ⟨(i+1,p+(ag (b.drop p)).2.1,l++[(ag (b.drop p)).1]),⟨⟨by show i+1≤cn b;omega,by show p+(ag (b.drop p)).2.1≤b.length;omega,by show (l++[(ag (b.drop p)).1]).length=i+1;rw[List.length_append,hll];rfl,(uW hc27 (Classical.not_not.1 hc35)).symm.trans hst⟩,O1⟩,LT,rfl⟩
  have hie:i=cn b:=by omega
  rw[hie,Nat.sub_self,su] at hst
  refine Tr.exit ?_
  refine hK2 _ ?_
  refine Tr.w hcx [1000043,1000044] _ [] rfl rfl rfl ?_ eO
  first| (refine Tr.k [2,3,4] ?_;refine dZ iC .no (by decide) (by decide) (by decide) ?_) |skip
  exact Tr.ret CE
 have hok:=True.intro
 refine Tr.w hcx [1000016,1000017,1000018] _ [] rfl rfl rfl ?_ eO
 refine aa fun K6 hK6=>?_
 refine Tr.w hcx [] _ [] rfl rfl rfl ?_ eO
 refine bf rfl ?_
 refine Tr.w hcx [1000021] _ [] rfl rfl rfl ?_ eO
 first| (refine Tr.k [2,3,4] ?_;refine dZ iC .no (by decide) (by decide) (by decide) ?_) |skip
 exact Tr.ret CE
end Go.Sx
namespace Go.Sx
open Go.RowKit Go.Proofs
abbrev NA:=Option {x:List UInt8×Nat // x.1.length< 1099511627776∧x.2≤x.1.length}
def u0 (x:List UInt8×Nat):List C×Hp:=([sl bC .no x.1,.val (nI x.2)],[])
def u2 (x:List UInt8×Nat):C×Hp:=(.fn 112 [.bp 0 0,.bp 1 0],[some [sl bC .no x.1],some [.val (nI x.2)]])
def oe (x:NA):List C×Hp:=match x with
 |none=>([.bp 0 0,.bp 1 0],[])
 |some x=>([.bp 0 0,.bp 1 0],[some [sl bC .no x.1.1],some [.val (nI x.1.2)]])
def u3 (x:NA):C×Hp:=match x with
 |none=>(.top,[])
 |some x=>(.tup [.val (.int .i64 (ag (x.1.1.drop x.1.2)).1),.val (nI (x.1.2+(ag (x.1.1.drop x.1.2)).2.1)),.val (nI (ag (x.1.1.drop x.1.2)).2.2)],[some [sl bC .no x.1.1],some [.val (nI (x.1.2+(ag (x.1.1.drop x.1.2)).2.1))]])
noncomputable def FU:Nat→List C→Hp→Option (C×Hp):=Sx.extH (Sx.extH (fun _ _ _=>none) 97 (nn u0 u2)) 112 (nn oe u3)
theorem ajh (x y:List UInt8×Nat)(h:u0 x=u0 y):u2 x=u2 y:=by
 simp only[u0,Prod.mk.injEq,List.cons.injEq,aH,C.val.injEq,aI,and_true] at h
 unfold u2;rw[h.1,h.2]
theorem Qp (x y:NA)(h:oe x=oe y):u3 x=u3 y:=by
 rcases x with _|x<;>rcases y with _|y
 . rfl
 . simp[oe] at h
 . simp[oe] at h
 . simp only[oe,Prod.mk.injEq,List.cons.injEq,Option.some.injEq,aH,C.val.injEq,aI,and_true,true_and] at h
   unfold u3;simp only[h.1,h.2]
theorem T0 (b:List UInt8)(p:Nat):FU 97 [sl bC .no b,.val (nI p)] [] =some (.fn 112 [.bp 0 0,.bp 1 0],[some [sl bC .no b],some [.val (nI p)]]):=
 (pU (by decide) _ _).trans ((ko _ _).trans (mE ajh (b,p)))
theorem JP:FU 112 [.bp 0 0,.bp 1 0] [] =some (.top,[]):=(ko _ _).trans (mE Qp none)
theorem NB (b:List UInt8)(p:Nat)(h:b.length< 1099511627776∧p≤b.length):FU 112 [.bp 0 0,.bp 1 0] [some [sl bC .no b],some [.val (nI p)]] =some (.tup [.val (.int .i64 (ag (b.drop p)).1),.val (nI (p+(ag (b.drop p)).2.1)),.val (nI (ag (b.drop p)).2.2)],[some [sl bC .no b],some [.val (nI (p+(ag (b.drop p)).2.1))]]):=
 (ko _ _).trans (mE Qp (some ⟨(b,p),h⟩))
theorem aa1:iE Tryd.prog 112:=⟨_,Tryd.func112,rfl,rfl⟩
theorem T2 {gl:Nat→C}{M:Nat}{pu:Nat→List C→Option C}(hcx:CxOK (af gl M pu))(h111:∀b:List UInt8,b.length< 1099511627776→pu 111 [sl bC .no b] =some (.tup [.val (.int .i64 (ag b).1),.val (nI (ag b).2.1),.val (nI (ag b).2.2)])):
 CxOK (eR gl M pu FU):=by
 have h1:CxOK ⟨Tryd.prog,M,gl,pu,Sx.extH (fun _ _ _=>none) 97 (nn u0 u2),fun _=>false,fun _ _=>false,true⟩:=CxOK.extH (N:=M) hcx fun x=>ajt hcx x.1 x.2
 refine CxOK.extH (N:=M) h1 fun x=>?_
 rcases x with _|x
 . exact aaE aa1
 . exact afv hcx h111 x.1.1 x.1.2 x.2.1 x.2.2
theorem afp {gl:Nat→C}{M:Nat}{pu:Nat→List C→Option C}(hcx:CxOK (af gl M pu))(hnr:∀ (g:Nat) (xs:List C),noRefs 0 xs=false→pu g xs=none)(n97:∀xs:List C,pu 97 xs=none)(h111:∀b:List UInt8,b.length< 1099511627776→pu 111 [sl bC .no b] =some (.tup [.val (.int .i64 (ag b).1),.val (nI (ag b).2.1),.val (nI (ag b).2.2)]))(h96w:∀ (b:List UInt8) (s:Nat),b.length< 1099511627776∧0< s∧s≤16→pu 96 [sl bC .no b,.val (nI s)] =some (lj b s))(b:List UInt8)(hb:b.length< 1099511627776):FC Tryd.prog gl 70 [sl bC .no b] [] (.tup [sl iC .no (aX ag 1 b).1,.val (nI (aX ag 1 b).2.1),.val (nI (aX ag 1 b).2.2)]) []:=
 aju (T2 hcx h111) h96w (fun _ _=>n97 _) (hnr _ _ rfl) T0 (.top,[]) JP NB b hb
theorem afq {gl:Nat→C}{M:Nat}{pu:Nat→List C→Option C}(hcx:CxOK (af gl M pu))(h111:∀b:List UInt8,b.length< 1099511627776→pu 111 [sl bC .no b] =some (.tup [.val (.int .i64 (ag b).1),.val (nI (ag b).2.1),.val (nI (ag b).2.2)]))(b:List UInt8)(s:Nat)(hb:b.length< 1099511627776)(hs:0< s∧s≤16):FC Tryd.prog gl 96 [sl bC .no b,.val (nI s)] [] (lj b s) []:=by
 have h:=ajm hcx h111 b s hb hs
 unfold lj
 split
 . rename_i hE
   have h1:=gp hs.1 hE
   rw[hE,h1.2.1] at h
   exact h
 . exact h
theorem aa2 {gl:Nat→C}{M:Nat}{pu:Nat→List C→Option C}(hcx:CxOK (af gl M pu))(h101:∀b:List UInt8,b.length< 1099511627776→pu 101 [sl bC .no b] =some (.tup [.val (.int .i64 (ag b).1),.val (nI (ag b).2.1),.val (nI (ag b).2.2)]))(b:List UInt8)(s:Nat)(hb:b.length< 1099511627776)(hs:0< s∧s≤16):FC Tryd.prog gl 100 [sl bC .no b,.val (nI s)] [] (lx b s) []:=by
 unfold lx
 split
 . rename_i hE;exact aa7 hcx h101 b s hb hs hE
 . rename_i hE;exact aa8 hcx h101 b s hb hs hE
end Go.Sx
namespace Go.Sx
open Go.RowKit
structure Rdy (l:Nat) (rec:LoopState→Option Code→Loop) (G:Gh) (w:World) (s:LoopState) (p:Option Code):Prop where
 obj:w.heap[l]? =some (.loop (rec s p))
 T:G.T l=none
 μ:∀b,G.μ b≠some l
theorem Rdy.frmN {n l:Nat}{rec:LoopState→Option Code→Loop}{G G':Gh}{w w':World}{s:LoopState}{p:Option Code}(h:Rdy l rec G w s p)(F:FrmN n G w G' w'):Rdy l rec G' w' s p:=by
 obtain ⟨a1,a2,a3,_⟩:=F.old l (Array.getElem?_eq_some_iff.1 h.obj).1 h.T h.μ
 exact ⟨a1.trans h.obj,a2,a3⟩
theorem Rdy.same {l:Nat}{rec:LoopState→Option Code→Loop}{G G':Gh}{w:World}{s:LoopState}{p:Option Code}(h:Rdy l rec G w s p)(hT:∀g,G.T g=none→G'.T g=none)(hμ:∀g,(∀b,G.μ b≠some g)→∀b,G'.μ b≠some g):Rdy l rec G' w s p:=⟨h.obj,hT _ h.T,hμ _ h.μ⟩
structure FrmX (l n:Nat) (G₀:Gh) (w₀:World) (G:Gh) (w:World):Prop where
 os:w.os=w₀.os
 tape:w.tape=w₀.tape
 output:w.output=w₀.output
 size:w₀.heap.size≤w.heap.size
 K:∀b o u,G₀.K b o=some u→G.K b o=some u
 μ:∀b k,b< n→G₀.μ b=some k→G.μ b=some k
 σ:∀b k,b< n→G₀.σ b=some k→G.σ b=some k
 old:∀g,g≠l→g< w₀.heap.size→G₀.T g=none→(∀b,G₀.μ b≠some g)→
  w.heap[g]? =w₀.heap[g]? ∧G.T g=none∧(∀b,G.μ b≠some g)∧∀o,G.K g o=G₀.K g o
theorem FrmX.of {l n:Nat}{A B:Gh}{a b:World}(h:FrmN n A a B b):FrmX l n A a B b:=⟨h.os,h.tape,h.output,h.size,h.K,h.μ,h.σ,fun g _=>h.old g⟩
theorem FrmX.trans {l n:Nat}{A B D:Gh}{a b d:World}(h:FrmX l n A a B b)(k:FrmX l n B b D d):FrmX l n A a D d:=
 ⟨k.os.trans h.os,k.tape.trans h.tape,k.output.trans h.output,Nat.le_trans h.size k.size,fun b o u x=>k.K b o u (h.K b o u x),fun b o hb x=>k.μ b o hb (h.μ b o hb x),fun b o hb x=>k.σ b o hb (h.σ b o hb x),fun g hl hg ht hm=>by
   obtain ⟨a1,a2,a3,a4⟩:=h.old g hl hg ht hm
   obtain ⟨b1,b2,b3,b4⟩:=k.old g hl (Nat.lt_of_lt_of_le hg h.size) a2 a3
   exact ⟨b1.trans a1,b2,b3,fun o=>(b4 o).trans (a4 o)⟩⟩
abbrev Ys:=List C→Hp→(Option Code→Hp→Prop)→Prop
def j1 (o:Option Code):LoopState:=if o.isNone then .ready else .done
structure Gle (n:Nat) (G₀ G:Gh):Prop where
 K:∀b o u,G₀.K b o=some u→G.K b o=some u
 μ:∀b k,G₀.μ b=some k→b< n∧G.μ b=some k
 σ:∀b k,G₀.σ b=some k→b< n∧G.σ b=some k
theorem Gle.le {n:Nat}{A B:Gh}(h:Gle n A B):A.Le B:=⟨h.K,fun b k x=>(h.μ b k x).2,fun b k x=>(h.σ b k x).2⟩
theorem Gle.frm {n:Nat}{A B D:Gh}{b d:World}(h:Gle n A B)(F:FrmN n B b D d):Gle n A D:=
 ⟨fun b o u x=>F.K b o u (h.K b o u x),fun b k x=>⟨(h.μ b k x).1,F.μ b k (h.μ b k x).1 (h.μ b k x).2⟩,fun b k x=>⟨(h.σ b k x).1,F.σ b k (h.σ b k x).1 (h.σ b k x).2⟩⟩
def Cl (P:Program)(gl:Nat→C)(l:Nat)(rec:LoopState→Option Code→Loop)(G₀:Gh)(Y:Ys):Prop:=
 ∀az h post,Y az h post→∀ (G:Gh)(w:World)(vs:Array Value),G₀.Le G→WorldOK G h w→(∀g p,G.T g=some p→p.1=1)→(∀g,Rep G (gl g) (.pointer (some ⟨g,0,none⟩)))→Rdy l rec G w .ready none→RepL G az vs.toList→
  ∃fn tmps assign body,(Instr.yield l vs).run P w= .ok (.round l fn tmps assign body) w∧RoundIn Fence.wide 0 P l fn tmps assign body w fun e w'=>
   ∃o G' h',e= .returned (.bool o.isNone)∧post o h'∧WorldOK G' h' w'∧Frm G (w.putObj l (.loop (rec (j1 o) o))) G' w'
def TrY (l:Nat)(rec:LoopState→Option Code→Loop)(G₀:Gh)(cx:Cx)(n:Nat)(c:Code)(st:St)(Q:Option Code→Ex→St→Prop):Prop:=
 ∀ (G:Gh)(w:World)(a:Act),Gle n G₀ G→Sim cx G w st a→Rdy l rec G w .ready none→∀ (R:Exit→Act→World→Prop),
   (∀o x st' G' w' a',Q o x st'→Sim cx G' w' st' a'→FrmX l n G w G' w'→(o=none→FrmN n G w G' w')→DefN w a a'→Rdy l rec G' w' (j1 o) o→R (kN x) a' w')→c.wpIn Fence.wide 0 cx.P R a w
section
variable {l:Nat} {rec:LoopState→Option Code→Loop} {G₀:Gh} {cx:Cx} {n:Nat} {st:St} {Q:Option Code→Ex→St→Prop}
theorem DefN.trans {w w':World}{a b d:Act}(h:DefN w a b)(k:DefN w' b d)(hs:w.heap.size≤w'.heap.size):DefN w a d:=by
 obtain ⟨ds,e,h1⟩:=h
 obtain ⟨es,e2,h2⟩:=k
 refine ⟨es++ds,by rw[e2,e,List.append_assoc],fun q hq D hD=>?_⟩
 rcases List.mem_append.1 hq with hq|hq
 . exact Nat.le_trans hs (h2 q hq D hD)
 . exact h1 q hq D hD
theorem DefN.refl (w:World)(a b:Act)(e:b.defers=a.defers):DefN w a b:=⟨[],by rw[e];rfl,fun _ h=>by cases h⟩
theorem kz {c:Code}{Q1:Ex→St→Prop}(H:Tr cx n c st Q1)(hQ:∀x s,Q1 x s→Q none x s):TrY l rec G₀ cx n c st Q:=fun G w a Le S D R hR=>
 H none (fun _=>rfl) G w a S R fun x s G' w' a' q S' F=>hR none x s G' w' a' (hQ x s q) S' (.of F.fr) (fun _=>F.fr) F.df (D.frmN F.fr)
theorem No {c:Code}{o:Option Code}(H:Tr cx n c st fun x s=>Q o x s){G0 G:Gh}{w0 w:World}{a0 a:Act}(S:Sim cx G w st a)(F0:FrmX l n G0 w0 G w)(D0:DefN w0 a0 a)(D:Rdy l rec G w (j1 o) o)(ho:o≠none){R:Exit→Act→World→Prop}
 (hR:∀o x st' G' w' a',Q o x st'→Sim cx G' w' st' a'→FrmX l n G0 w0 G' w'→(o=none→FrmN n G0 w0 G' w')→DefN w0 a0 a'→Rdy l rec G' w' (j1 o) o→R (kN x) a' w'):c.wpIn Fence.wide 0 cx.P R a w:=
 H none (fun _=>rfl) G w a S R fun x s G' w' a' q S' F=>hR o x s G' w' a' q S' (F0.trans (.of F.fr)) (fun e=>absurd e ho) (D0.trans F.df F0.size) (D.frmN F.fr)
def Qh (K:Option Code→St→Prop)(Q:Option Code→Ex→St→Prop):Option Code→Ex→St→Prop
 |o,.normal,s=>K o s
 |o,x,s=>Q o x s
theorem TrY.seq {x y:Code}(h:TrY l rec G₀ cx n x st (Qh (fun o s=>(o=none→TrY l rec G₀ cx n y s Q)∧(o≠none→Tr cx n y s fun x s=>Q o x s)) Q)):TrY l rec G₀ cx n (.seq x y) st Q:=fun G w ac Le H D R hR=>
 wpIn_seq (h G w ac Le H D _ fun o x s G' w' a' q S F F1 Df D'=>by
  cases x with
  |normal=>
   cases o with
   |none=>exact q.1 rfl G' w' a' (Le.frm (F1 rfl)) S D' R fun o2 x2 s2 G2 w2 a2 q2 S2 F2 F3 Df2 D2=>hR o2 x2 s2 G2 w2 a2 q2 S2 (F.trans F2) (fun e=>(F1 rfl).trans (F3 e)) (Df.trans Df2 F.size) D2
   |some j=>exact No (q.2 (by simp)) S F Df D' (by simp) hR
  |exit id=>exact hR o (.exit id) s G' w' a' q S F F1 Df D'
  |ret=>exact hR o .ret s G' w' a' q S F F1 Df D')
theorem TrY.cond {c:Operand}{x y:Code}{b:Bool}(hc:cx.ev st.env c= .val (.bool b))(h:TrY l rec G₀ cx n (if b then x else y) st Q):TrY l rec G₀ cx n (.cond c x y) st Q:=fun G w a Le H D R hR=>by
 have hv:=H.pre.ev c
 rw[hc,au] at hv
 refine wpIn_cond (t:=b) hv ?_
 cases b
 . exact h G w a Le H D R hR
 . exact h G w a Le H D R hR
def Jy (id:Nat)(Q:Option Code→Ex→St→Prop):Option Code→Ex→St→Prop
 |o,.exit k,s=>if k=id then Q o .normal s else Q o (.exit k) s
 |o,x,s=>Q o x s
theorem TrY.block {id:Nat}{c:Code}(h:TrY l rec G₀ cx n c st (Jy id Q)):TrY l rec G₀ cx n (.block id c) st Q:=fun G w a Le H D R hR=>
 wpIn_block (h G w a Le H D _ fun o x s G' w' a' q S F F1 Df D'=>by
  cases x with
  |normal=>exact hR o .normal s G' w' a' q S F F1 Df D'
  |ret=>exact hR o .ret s G' w' a' q S F F1 Df D'
  |exit k=>
   simp only[kN,Exit.inBlock,Jy] at q ⊢
   split at q
   . rename_i e;rw[if_pos e];exact hR o .normal s G' w' a' q S F F1 Df D'
   . rename_i e;rw[if_neg e];exact hR o (.exit k) s G' w' a' q S F F1 Df D')
theorem TrY.loop {c:Code}(Inv:Nat→St→Prop)(m:Nat)(h0:Inv m st)(h:∀m s,Inv m s→TrY l rec G₀ cx n c s (Qh (fun o s'=>o=none∧∃k,k< m∧Inv k s') Q)):TrY l rec G₀ cx n (.loop c) st Q:=fun G w a Le H D R hR=>by
 refine mW (fun m a' w'=> ∃s G',Inv m s∧Sim cx G' w' s a'∧FrmN n G w G' w'∧DefN w a a'∧Rdy l rec G' w' .ready none) m ⟨st,G,h0,H,.refl n G w,.refl w a a rfl,D⟩ ?_
 rintro m a' w' ⟨s,G',hi,S,F,Df,D'⟩
 refine h m s hi G' w' a' (Le.frm F) S D' _ fun o x s2 G2 w2 a2 q S2 F2 F3 Df2 D2=>?_
 cases x with
 |normal=>
  obtain ⟨rfl,k,hk,hik⟩:=q
  exact ⟨k,hk,s2,G2,hik,S2,F.trans (F3 rfl),Df.trans Df2 F.size,D2⟩
 |exit id=>exact hR o (.exit id) s2 G2 w2 a2 q S2 (FrmX.trans (.of F) F2) (fun e=>F.trans (F3 e)) (Df.trans Df2 F.size) D2
 |ret=>exact hR o .ret s2 G2 w2 a2 q S2 (FrmX.trans (.of F) F2) (fun e=>F.trans (F3 e)) (Df.trans Df2 F.size) D2
theorem TrY.weaken {c:Code}{env':Nat→C}(h:∀t,CLe (st.env t) (env' t))(k:TrY l rec G₀ cx n c ⟨env',st.h⟩ Q):TrY l rec G₀ cx n c st Q:=fun G w a Le H D R hR=>
 k G w a Le ⟨H.defers,H.size,H.pre.ok,⟨fun t=>(h t).1 G _ (H.pre.env.1 t),fun t s m xs e=>by
   rcases (h t).2 s m xs e with e'|e'
   . exact H.pre.env.2 t s m xs (e'.trans e)
   . obtain ⟨ad,hv⟩:=e' G _ (H.pre.env.1 t)
     rw[hv];exact .inl ⟨ad,rfl⟩⟩,H.pre.glob⟩ D R hR
theorem Np {Y:Ys}(hY:Cl cx.P cx.gl l rec G₀ Y){ops:Array Oper}{k d y:Nat}{args:Array Operand}{ts:Array TypeId}{ty:TypeId}{pos:String}{aft:Array Edge}
 (ho:ops[k]? =some ⟨some d,.call { callee:= .value (.tmp y),args,argTypes:=ts },ty,pos,aft,none⟩) (hd:d< cx.N) {G:Gh} {w:World} {a:Act} (Le:Gle n G₀ G) (H:Sim cx G w st a) (D:Rdy l rec G w .ready none)
 (hy:st.env y= .val (.func (.yield l) #[] #[])) {post:Option Code→Hp→Prop} (hp:Y ((args.toList.map (cx.evn st.env)).map C.share) st.h post) {K:Act→World→Prop} {Q:Exit→Act→World→Prop}
 (hK:∀o h' G' w' a',post o h'→Sim cx G' w' ⟨put (some d) (.val (.bool o.isNone)) st.env,h'⟩ a'→FrmX l n G w G' w'→(o=none→FrmN n G w G' w')→a'.defers=a.defers→Rdy l rec G' w' (j1 o) o→K a' w'):
 wpOpIn Fence.wide 0 cx.P ops Q k K a w:=by
 have hv:=H.pre.ev (.tmp y)
 rw[kR,hy,au] at hv
 have hargs:RepL (eQ G) ((args.toList.map (cx.evn st.env)).map C.share) (args.map a.eval).toList:=by
  simp only[Array.toList_map]
  refine RepL.of_get (by simp) fun i x v hxx hv=>?_
  simp only[List.map_map,List.getElem?_map] at hxx hv
  cases hq:args.toList[i]? with
  |none=>rw[hq] at hxx;cases hxx
  |some q=>
   rw[hq] at hxx hv
   cases hxx;cases hv
   exact (pV (H.pre.evn q)).mono gf
 obtain ⟨fn,tmps,assign,body,hrun,hR⟩:=hY _ _ _ hp (eQ G) w (args.map a.eval) (Le.le.trans gf) (vQ H.pre.ok) (fun g p hg=>by
  simp only[eQ] at hg
  cases hq:G.T g with
  |none=>rw[hq] at hg;cases hg
  |some q=>
   rw[hq] at hg
   simp only[] at hg
   split at hg
   . cases hg;assumption
   . cases hg) (fun g=>(H.pre.glob g).mono gf) (D.same (fun _ h=>il h) (fun _ h=>h)) hargs
 unfold wpOpIn
 rw[ho]
 simp only[Region.wanted,if_true]
 refine ⟨fun _ _=>trivial,?_⟩
 have hex: (execOp a.eval ⟨some d,.call { callee:= .value (.tmp y),args,argTypes:=ts },ty,pos,aft,none⟩).run cx.P w= .ok (.round l fn tmps assign body) w:=by
  simp[execOp,resolve,hv,Deferred.ofValue,invoke,Sem.run_bind,hrun]
 rw[oP (fun d e=>by cases e) hex]
 simp only[Oper.uponIn]
 refine ⟨(fun h=>by cases h),hR.mono ?_⟩
 rintro e w' ⟨o,G',h',rfl,hpost,W',F⟩
 obtain ⟨w1,hw1⟩:∃w1,w.putObj l (.loop (rec (j1 o) o)) =w1:=⟨_,rfl⟩
 rw[hw1] at F
 have hlt:l< w.heap.size:=(Array.getElem?_eq_some_iff.1 D.obj).1
 have hl1:w1.heap[l]? =some (.loop (rec (j1 o) o)):=by rw[←hw1];exact World.putObj_heap_same hlt
 have hoth:∀g,g≠l→w1.heap[g]? =w.heap[g]? :=fun g hg=>by rw[←hw1];exact World.putObj_heap_other hg
 have Sh:Shut 0 G w w1:=⟨by rw[←hw1];rfl,by rw[←hw1];rfl,by rw[←hw1];rfl,by rw[←hw1];simp,fun g=>by
  by_cases hg:g=l
  . subst hg;exact .inr ⟨Nat.zero_le _,⟨_,D.obj,.inr ⟨_,rfl⟩⟩,D.T,D.μ⟩
  . exact .inl (hoth g hg)⟩
 have H1:Sim cx G w1 st a:=⟨⟨H.defers.1,fun d hd=>by
  obtain ⟨E,e1,e2,e3⟩:=H.defers.2 d hd
  refine ⟨E,e1,(hoth E fun q=>?_).trans e2,e3⟩
  rw[q,D.obj] at e2;cases e2⟩,H.size,Sh.ok H.pre.ok,⟨H.pre.env.1,fun t s n xs e=>Sh.row (H.pre.env.2 t s n xs e)⟩,H.pre.glob⟩
 have D1:Rdy l rec G w1 (j1 o) o:=⟨hl1,D.T,D.μ⟩
 have O:=s6 (c:= .val (.bool o.isNone)) (v:= .bool o.isNone) H1.pre (0,d,0) W' F (au.2 rfl) (fun s n xs e=>by cases e)
 refine hK o h' _ w' _ hpost (H1.put (dst:=some d) (fun q e=>by cases e;exact hd) O) ?_ (fun e=>?_) (oA _ _ _) (D1.frmN (n:=0) (.of O.frm))
 . have F2:=O.frm
   exact ⟨F2.os.trans Sh.os,F2.tape.trans Sh.tape,F2.output.trans Sh.output,by have:=F2.size;rw[Sh.size] at this;exact this,F2.le.K,fun b k _ x=>F2.le.μ b k x,fun b k _ x=>F2.le.σ b k x,fun g hg hs ht hm=>by
    obtain ⟨a1,a2⟩:=F2.old g (by rw[Sh.size];exact hs) ht hm
    exact ⟨a1.trans (hoth g hg),a2⟩⟩
 . have:w1=w:=by
    subst e
    rw[←hw1]
    have: (w.heap.setIfInBounds l (.loop (rec .ready none))) =w.heap:=by
     apply Array.ext_getElem?
     intro i
     by_cases hi:i=l
     . subst hi;rw[D.obj];simp[hlt]
     . exact Array.getElem?_setIfInBounds_ne (Ne.symm hi)
    show ({ w with heap:=w.heap.setIfInBounds l (.loop (rec .ready none)) }:World) =w
    rw[this]
   have O2:=O.frm
   rw[this] at O2 ⊢
   exact .of O2
theorem qa (hcx:CxOK cx){F:Option Nat}{ops:Array Oper}{base:Nat}{Q:Exit→Act→World→Prop}{l2:List Nat}:∀ (l1:List Nat){G:Gh}{w:World}{st:St}{a:Act}{st':St},Sim cx G w st a→ic cx ops base l1 st=some st'→
 (∀G' w' a',Sim cx G' w' st' a'→Frm G w G' w'→a'.defers=a.defers→wpOpsIn (wF F) 0 cx.P ops Q l2 a' w')→wpOpsIn (wF F) 0 cx.P ops Q (l1++l2) a w
 | [],G,w,st,a,st',H,h,hQ=>by
   simp only[ic,Option.some.injEq] at h
   subst h
   exact hQ G w a H (Frm.refl G w) rfl
 |i::l,G,w,st,a,st',H,h,hQ=>by
  simp only[ic] at h
  cases hs:ia cx ops base i st with
  |none=>rw[hs] at h;cases h
  |some st1=>
   rw[hs] at h
   rw[List.cons_append,wpOpsIn_cons]
   exact vR hcx H hs fun G' w' a' S F e=>qa hcx l S h fun G2 w2 a2 S2 F2 e2=>hQ G2 w2 a2 S2 (F.trans F2) (e2.trans e)
theorem np {ops:Array Oper}{base:Nat}{K:St→Prop}(h0:∀k,dG ops k=0):∀ (l:List Oper)(k:Nat)(st:St),(∀i,i< l.length→ops[k+i]? =l[i]?)→
 jT cx (ops.toList.filterMap cG) (ops.toList.map (·.dst)) l base st K→∃st',ic cx ops base (List.range' k l.length) st=some st'∧K st'
 | [],k,st,_,h=>⟨st,rfl,h⟩
 |o::l,k,st,hl,h=>by
  have hk:ops[k]? =some o:=by have:=hl 0 (by simp);simpa using this
  have hl':∀i,i< l.length→ops[k+1+i]? =l[i]? :=fun i hi=>by
   have:=hl (i+1) (by simp;omega)
   rw[show k+1+i=k+(i+1) from by omega]
   simpa using this
  simp only[jT] at h
  obtain ⟨hd,h⟩:=h
  rw[oE,pO] at h
  have hid: (if dl o then base+1 else base) =base:=by
   have:=tc ops k o hk
   rw[h0,h0] at this
   split at this
   . omega
   . rename_i q;rw[if_neg q]
  rw[hid] at h
  simp only[List.length_cons,List.range'_succ,ic]
  have next:∀s,jT cx (ops.toList.filterMap cG) (ops.toList.map (·.dst)) l base s K→ia cx ops base k st=some s→∃st',(ia cx ops base k st).bind (ic cx ops base (List.range' (k+1) l.length)) =some st'∧K st':=fun s hs hst=>by
   obtain ⟨st',h1,h2⟩:=np h0 l (k+1) s hl' hs
   exact ⟨st',by rw[hst];exact h1,h2⟩
  cases hw:dY ops o st.env with
  |none=>rw[hw] at h;exact h.elim
  |some b=>
   rw[hw] at h
   cases b with
   |false=>
    refine next _ h ?_
    unfold ia
    rw[hk]
    simp only[hd,if_true,hw]
   |true=>
    simp only[E4] at h
    cases hp:splan cx ops o st.env with
    |none=>rw[hp] at h;exact h.elim
    |some p=>
     rw[hp] at h
     simp only[] at h
     cases ha:a8 cx base p st.h with
     |none=>rw[ha] at h;exact h.elim
     |some r=>
      rw[ha] at h
      refine next _ h ?_
      unfold ia
      rw[hk]
      simp only[hd,if_true,hw,hp,cj,h0,Nat.add_zero,ha,Option.map_some]
theorem TrY.rg (hcx:CxOK cx){Y:Ys}(hY:Cl cx.P cx.gl l rec G₀ Y){id:Nat}(L1 L2:List Oper){d y:Nat}{args:Array Operand}{ts:Array TypeId}{ty:TypeId}{pos:String}{aft:Array Edge}{e:List (Nat×C)}{h:Hp}{L:List Oper}
 (hL:L=L1++⟨some d,.call { callee:= .value (.tmp y),args,argTypes:=ts },ty,pos,aft,none⟩::L2) (hd:d< cx.N) (hm:L.countP dl=0) (apps:List Nat) (dsts:List (Option Nat)) (h1:L.filterMap cG=apps) (h2:L.map (·.dst) =dsts)
 (H:run cx apps dsts L1 h.length e h [] (fun _ s=>s.env y= .val (.func (.yield l) #[] #[])∧Y ((args.toList.map (cx.evn s.env)).map C.share) s.h fun o h'=>jT cx apps dsts L2 h.length ⟨put (some d) (.val (.bool o.isNone)) s.env,h'⟩ (Q o .normal))):
 TrY l rec G₀ cx n (.region id L.toArray false) ⟨A e,h⟩ Q:=by
 intro G w a Le S D R hR
 have hc:∀k,dG L.toArray k=0:=fun k=>by
  unfold dG
  have: (L.take k).countP dl≤L.countP dl:=(List.take_sublist k L).countP_le
  simp only[]
  omega
 have hr:=jb _ _ _ _ H
 have e1:L.toArray.toList.filterMap cG=apps:=by simpa using h1
 have e2:L.toArray.toList.map (·.dst) =dsts:=by simpa using h2
 rw[←e1,←e2] at hr
 obtain ⟨s1,q1,q2,q3⟩:=np hc L1 0 _ (fun i hi=>by simp[hL,List.getElem?_append_left hi]) hr
 have hy:L.toArray[L1.length]? =some ⟨some d,.call { callee:= .value (.tmp y),args,argTypes:=ts },ty,pos,aft,none⟩:=by simp[hL]
 refine wpIn_region (F:=wF none) ?_
 have hlen:L.toArray.size=L1.length+(1+L2.length):=by simp[hL];omega
 rw[hlen,List.range_eq_range',←List.range'_append_1]
 refine qa hcx _ S q1 fun G1 w1 a1 S1 F1 f1=>?_
 rw[Nat.zero_add,Nat.add_comm 1,List.range'_succ,wpOpsIn_cons]
 refine Np (n:=n) hY hy hd (Le.frm (.of F1)) S1 (D.frmN (n:=0) (.of F1)) q2 q3 fun o h' G2 w2 a2 p2 S2 F2 F3 f2 D2=>?_
 obtain ⟨s2,r1,r2⟩:=np hc L2 (L1.length+1) _ (fun i hi=>by simp only[List.getElem?_toArray];rw[hL,List.getElem?_append_right (by omega),show L1.length+1+i - L1.length=i+1 from by omega,List.getElem?_cons_succ]) p2
 have key:=qa (F:=none) (Q:=R) (l2:=[]) hcx (List.range' (L1.length+1) L2.length) S2 r1 fun G3 w3 a3 S3 F4 f3=>by
  have F5:FrmN n G2 w2 G3 w3:= .of F4
  exact hR o .normal s2 G3 w3 a3 r2 S3 ((FrmX.of (FrmN.of F1)).trans (F2.trans (.of F5))) (fun e=>(FrmN.of F1).trans ((F3 e).trans F5)) (DefN.refl _ _ _ (f3.trans (f2.trans f1))) (D2.frmN F5)
 rwa [List.append_nil] at key
end
end Go.Sx
namespace Go.Sx
open Go.RowKit
theorem Cm {G:Gh}{h:Hp}{w:World}(W:WorldOK G h w){l:Nat}{r:Loop}(hl:w.heap[l]? =some (.loop r))(o:Nat):G.K l o=none:=by
 cases hk:G.K l o with
 |none=>rfl
 |some u=>
  have:=W.known l o u hk
  unfold World.cell? at this
  rw[hl] at this
  cases this
theorem FrmX.put {l n:Nat}{G:Gh}{w:World}(ob:Obj):FrmX l n G w G (w.putObj l ob):=
 ⟨rfl,rfl,rfl,by simp,fun _ _ _ x=>x,fun _ _ _ x=>x,fun _ _ _ x=>x,fun g hg _ ht hm=>⟨World.putObj_heap_other hg,ht,hm,fun _=>rfl⟩⟩
theorem FrmX.toFrm {l n:Nat}{G G':Gh}{w w':World}{h h':Hp}{r r0:Loop}(F:FrmX l n G w G' w')(hn:∀b k,G.μ b=some k→b< n)(W:WorldOK G h w)(W':WorldOK G' h' w')(h0:w.heap[l]? =some (.loop r0))(hl:w'.heap[l]? =some (.loop r))(hT:G'.T l=none)(hμ:∀b,G'.μ b≠some l):
 Frm G (w.putObj l (.loop r)) G' w':=
 ⟨F.os,F.tape,F.output,by rw[World.putObj_size];exact F.size,⟨F.K,fun b k x=>F.μ b k (hn b k x) x,fun b z x=>F.σ b z (by
   obtain ⟨k,_,_,_,hm,_⟩:=W.siz b z x
   exact hn b k hm) x⟩,fun g hg ht hm=>by
   rw[World.putObj_size] at hg
   by_cases e:g=l
   . subst e
     exact ⟨by rw[World.putObj_heap_same hg];exact hl,hT,hμ,fun o=>by rw[Cm W h0,Cm W' hl]⟩
   . obtain ⟨a1,a2⟩:=F.old g e hg ht hm
     exact ⟨by rw[World.putObj_heap_other e];exact a1,a2⟩⟩
theorem Shut.put {G:Gh}{w:World}{l:Nat}{ob0 ob:Obj}(h0:w.heap[l]? =some ob0)(hb:Bk ob0)(hT:G.T l=none)(hμ:∀b,G.μ b≠some l):Shut 0 G w (w.putObj l ob):=
 ⟨rfl,rfl,rfl,by simp,fun g=>by
   by_cases e:g=l
   . subst e;exact .inr ⟨Nat.zero_le _,⟨_,h0,hb⟩,hT,hμ⟩
   . exact .inl (World.putObj_heap_other e)⟩
theorem Sim.putL {cx:Cx}{G:Gh}{w:World}{st:St}{a:Act}{l:Nat}{r:Loop}{ob:Obj}(H:Sim cx G w st a)(h0:w.heap[l]? =some (.loop r))(hT:G.T l=none)(hμ:∀b,G.μ b≠some l):Sim cx G (w.putObj l ob) st a:=by
 have S:=Shut.put (ob:=ob) h0 (.inr ⟨r,rfl⟩) hT hμ
 exact ⟨⟨H.defers.1,fun d hd=>by
  obtain ⟨E,e1,e2,e3⟩:=H.defers.2 d hd
  refine ⟨E,e1,(World.putObj_heap_other fun q=>?_).trans e2,e3⟩
  rw[q,h0] at e2;cases e2⟩,H.size,S.ok H.pre.ok,⟨H.pre.env.1,fun t s n xs e=>S.row (H.pre.env.2 t s n xs e)⟩,H.pre.glob⟩
def mJ (IN:Hp→Prop)(B:Code→Hp→Prop):Option Code→Hp→Prop
 |none,h=>IN h
 |some j,h=>B j h
def ItrC (P:Program)(gl:Nat→C)(f:Nat)(caps:List C)(N:Nat)(xs:Nat→List C):Prop:=
 iE P f∧∀ (l:Nat)(rec:LoopState→Option Code→Loop)(I:Nat→Hp→Prop)(B:Code→Hp→Prop)(h:Hp)(G:Gh)(w:World)(vs:Array Value)(Y:Ys),Cl P gl l rec G Y→
  (∀i h post,i< N→I i h→(∀o k,mJ (I (i+1)) B o k→post o k)→Y (xs i) h post)→I 0 h→WorldOK G h w→(∀g p,G.T g=some p→p.1=1)→(∀g,Rep G (gl g) (.pointer (some ⟨g,0,none⟩)))→Rdy l rec G w .ready none→RepL G caps vs.toList→
  CallsIn Fence.wide 0 P f (#[.func (.yield l) #[] #[]]++vs) w fun e w'=> ∃v o G' h',e= .returned v∧mJ (I N) B o h'∧WorldOK G' h' w'∧Frm G (w.putObj l (.loop (rec (j1 o) o))) G' w'
def afm (p:Option Code→Hp→Prop):Option Code→Ex→St→Prop
 |_,.exit _,_=>False
 |o,_,st=>p o st.h
theorem ItrC.of {cx:Cx} {f:Nat} {fn:Func} {code:Code} {caps:List C} {N:Nat} {xs:Nat→List C} (hN:cx.N=fn.ntmps) (hf:cx.P.funcs[f]? =some fn) (hn: (fn.name== "runtime.NumGoroutine") =false) (hb:fn.body=some code) (hrs:fn.results= #[]) (hlen:caps.length+1≤fn.ntmps)
 (hT:∀ (l:Nat)(rec:LoopState→Option Code→Loop)(G:Gh)(I:Nat→Hp→Prop)(B:Code→Hp→Prop)(h:Hp)(Y:Ys),Cl cx.P cx.gl l rec G Y→(∀i h post,i< N→I i h→(∀o k,mJ (I (i+1)) B o k→post o k)→Y (xs i) h post)→I 0 h→
   TrY l rec G cx h.length code ⟨A (bq 0 (.val (.func (.yield l) #[] #[])::caps)),h⟩ (afm (mJ (I N) B))):ItrC cx.P cx.gl f caps N xs:=by
 refine ⟨⟨fn,hf,hn,by rw[hb];rfl⟩,fun l rec I B h G w vs Y hY hI h0 W hTg hgl D hr=>?_⟩
 have hvl:vs.size=caps.length:=by rw[hr.length];simp
 have hn0:∀b k,G.μ b=some k→b< h.length:=fun b k hm=>by
  obtain ⟨⟨cells,hc⟩,_⟩:=W.dom b k hm
  exact (List.getElem?_eq_some_iff.1 hc).1
 have Le:Gle h.length G G:=⟨fun _ _ _ x=>x,fun b k x=>⟨hn0 b k x,x⟩,fun b z x=>⟨by
  obtain ⟨k,_,_,_,hm,_⟩:=W.siz b z x
  exact hn0 b k hm,x⟩⟩
 have hargs:RepL G (.val (.func (.yield l) #[] #[])::caps) (#[Value.func (.yield l) #[] #[]]++vs).toList:=by
  simp only[Array.toList_append,List.cons_append,List.nil_append,RepL]
  exact ⟨_,_,rfl,au.2 rfl,hr⟩
 have hsz: (#[Value.func (.yield l) #[] #[]]++vs).size=caps.length+1:=by simp[hvl];omega
 refine callsIn_of_wp_marks (F:=Fence.wide) (n:=0) hf hb trivial ?_
 have hsim:Sim cx G w ⟨init (.val (.func (.yield l) #[] #[])::caps),h⟩ { tmps:=(#[.func (.yield l) #[] #[]]++vs)++Array.replicate (fn.ntmps - (#[Value.func (.yield l) #[] #[]]++vs).size) undef,defers:=[] }:=by
  refine ⟨Mks.nil,?_,W,⟨fun t=>?_,fun t s m xs e=>(gY e).elim⟩,hgl⟩
  . rw[Array.size_append,Array.size_replicate,hsz,hN];omega
  . simp only[init,av,Array.getD_eq_getD_getElem?]
    refine Rep.noR ?_
    cases hq: (C.val (.func (.yield l) #[] #[])::caps)[t]? with
    |some x=>
     obtain ⟨v,hv,hrv⟩:=hargs.get t x hq
     have hlt:t< (#[Value.func (.yield l) #[] #[]]++vs).size:=by
      have:=(List.getElem?_eq_some_iff.1 hv).1
      rw[hsz];simp at this;omega
     rw[Array.getElem?_append_left hlt]
     have hv': (#[Value.func (.yield l) #[] #[]]++vs)[t]? =some v:=by rw[←Array.getElem?_toList];exact hv
     rw[hv']
     exact hrv
    |none=>
     have hge: (#[Value.func (.yield l) #[] #[]]++vs).size≤t:=by
      have:=List.getElem?_eq_none_iff.1 hq
      rw[hsz];simpa using this
     rw[Array.getElem?_append_right hge]
     simp only[Option.getD_none]
     rw[au]
     cases hq2: (Array.replicate (fn.ntmps - (#[Value.func (.yield l) #[] #[]]++vs).size) undef)[t - (#[Value.func (.yield l) #[] #[]]++vs).size]? with
     |none=>rfl
     |some u=>
      rw[Array.getElem?_replicate] at hq2
      split at hq2
      . cases hq2;rfl
      . cases hq2
 have hW:=(TrY.weaken (fun t=>CLe.init _ t) (hT l rec G I B h Y hY hI h0)) G w _ Le hsim D
 refine hW _ fun o x st' G' w' a' hx S F F1 Df D'=>?_
 obtain ⟨ds,hds,hnew⟩:=Df
 rw[List.append_nil] at hds
 have go:mJ (I N) B o st'.h→LeavesInM Fence.wide 0 cx.P fn a'.tmps (fun e w'=> ∃v o G' h',e= .returned v∧mJ (I N) B o h'∧WorldOK G' h' w'∧Frm G (w.putObj l (.loop (rec (j1 o) o))) G' w') a'.defers .returning w':=fun hx=>
  mr (m:=w.heap.size) (G:=G') (w:=w') a'.defers (Shut.refl _ _ _) S.defers (by rw[hds];exact hnew) fun w2 T=>by
   have hres:results { cx with N:=fn.ntmps } fn st'=some (.tup []):=by
    unfold results;rw[hrs];rfl
   have S2:=T.sim S
   obtain ⟨v,G2,r1,r2,r3,r4,r5,r6,r7⟩:=uq (cx:= { cx with N:=fn.ntmps }) (n:=h.length) (fn:=fn) (c:= .tup []) (⟨S2.defers,hN▸S2.size,⟨S2.pre.ok,S2.pre.env,S2.pre.glob⟩⟩:Sim { cx with N:=fn.ntmps } G' w2 st' { a' with defers:=[] }) hres
   have hlt:l< w.heap.size:=(Array.getElem?_eq_some_iff.1 D.obj).1
   have hl2:w2.heap[l]? =some (.loop (rec (j1 o) o)):=by
    rcases T.heap l with q| ⟨q,_⟩
    . exact q.trans D'.obj
    . omega
   have F2:FrmX l h.length G w G2 w2:=by
    refine FrmX.trans (B:=G') (b:=w2) ?_ (.of r5)
    exact ⟨T.os.trans F.os,T.tape.trans F.tape,T.output.trans F.output,by rw[T.size];exact F.size,F.K,F.μ,F.σ,fun g hg hs ht hm=>by
     obtain ⟨a1,a2⟩:=F.old g hg hs ht hm
     refine ⟨?_,a2⟩
     rcases T.heap g with q| ⟨q,_⟩
     . exact q.trans a1
     . omega⟩
   have D2:Rdy l rec G2 w2 (j1 o) o:=Rdy.frmN (n:=h.length) ⟨hl2,D'.T,D'.μ⟩ r5
   exact ⟨v,r1,v,o,G2,st'.h,rfl,hx,r4,F2.toFrm hn0 W r4 D.obj hl2 D2.T D2.μ⟩
 cases x with
 |exit k=>exact hx.elim
 |normal=>exact go hx
 |ret=>exact go hx
end Go.Sx
