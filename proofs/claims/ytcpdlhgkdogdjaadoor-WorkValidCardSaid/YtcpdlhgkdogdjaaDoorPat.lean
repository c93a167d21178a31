/-
   And what follows.
-/
import Derived.Test.YtcpdlhgkdogdjaaDoorPas
import Derived.Test.YtcpdlhgkdogdjaaDoorPam
set_option linter.unusedSimpArgs false
set_option linter.unusedVariables false
namespace Go.Sx
open Go.RowKit Go.Proofs
theorem vM {w:ah}{v a i:Nat}(hv:v< w.length)(ha:a< (gt w v).length)(hi:i< (gt (gt w v) a).2.length):lm w (oV w v+(oA v (gt w v) a+i)) =je (gt (gt w v) a).2 i:=by
 unfold lm je
 rw[(lX w v a i hv ha hi).1]
 cases i with
 |zero=>simp
 |succ k=>
  have e:u7 w (oV w v+(oA v (gt w v) a+(k+1))) = (gt (aS w) (oV w v+(oA v (gt w v) a+k))).2.2.1:=rfl
  rw[e,(lX w v a k hv ha (by omega)).1]
  simp
theorem rT {f:Nat→Nat}(h0:f 0=0):∀n j,j< f n→∃v,v< n∧f v≤j∧j< f (v+1)
 |0,j,h=>by rw[h0] at h;omega
 |n+1,j,h=>by
  by_cases hj:j< f n
  . obtain ⟨v,h1,h2,h3⟩:=rT h0 n j hj
    exact ⟨v,by omega,h2,h3⟩
  . exact ⟨n,by omega,by omega,h⟩
theorem Qx {w:ah}{j:Nat}(hj:j< (aS w).length):∃v a i,v< w.length∧a< (gt w v).length∧i< (gt (gt w v) a).2.length∧j=oV w v+(oA v (gt w v) a+i):=by
 rw[←F6] at hj
 obtain ⟨v,hv,h1,h2⟩:=rT (f:=oV w) (Pg w) w.length j hj
 rw[FY,←FW] at h2
 obtain ⟨a,ha,h3,h4⟩:=rT (f:=oA v (gt w v)) (Pf v (gt w v)) (gt w v).length (j - oV w v) (by omega)
 rw[FV] at h4
 exact ⟨v,a,j - oV w v - oA v (gt w v) a,hv,ha,by omega,by omega⟩
theorem Ll (w:ah):rS w=nw w:=by
 rw[Bool.eq_iff_iff]
 constructor
 . intro h
   refine List.all_eq_true.2 fun j hj=>?_
   obtain ⟨v,a,i,hv,ha,hi,rfl⟩:=Qx (List.mem_range.1 hj)
   rw[vM hv ha hi]
   have h1:=List.all_eq_true.1 (List.all_eq_true.1 h _ (bz w v hv)) _ (bz _ a ha)
   exact List.all_eq_true.1 h1 i (List.mem_range.2 hi)
 . intro h
   refine iw fun v hv=>iw fun a ha=>?_
   refine vI fun i hi=>?_
   rw[←vM hv ha hi]
   exact List.all_eq_true.1 h _ (List.mem_range.2 (lX w v a i hv ha hi).2)
theorem xJ (w:ah):gx w=eF w:=by unfold gx eF;rw[Ll]
end Go.Sx
namespace Go.Sx
end Go.Sx
namespace Go.Sx
end Go.Sx
namespace Go.Sx
theorem uR:∀ (s:List UInt8)(p:Bool),jP p s=true→∀i,i< s.length→32≤gt s i∧gt s i≤126∧(gt s i=32→(i=0→p=false)∧i+1≠s.length∧(0< i→gt s (i - 1)≠32))
 | [],p,_,i,hi=>by simp at hi
 |c::r,p,h,i,hi=>by
  unfold jP at h
  by_cases hc:c=32
  . subst hc
    rw[if_pos rfl,Bool.and_eq_true,Bool.not_eq_true'] at h
    have hr:r≠[]:=by rintro rfl;simp[jP] at h
    cases i with
    |zero=>
     rw[mm]
     refine ⟨by decide,by decide,fun _=>⟨fun _=>h.1,fun e=>?_,fun h=>absurd h (Nat.lt_irrefl 0)⟩⟩
     have:r.length=0:=by simpa using e.symm
     exact hr (List.length_eq_zero_iff.1 this)
    |succ i=>
     have ih:=uR r true h.2 i (by simpa using hi)
     rw[kG]
     refine ⟨ih.1,ih.2.1,fun e=>?_⟩
     obtain ⟨j1,j2,j3⟩:=ih.2.2 e
     refine ⟨fun h=>absurd h (by omega),by simpa using j2,fun _=>?_⟩
     cases i with
     |zero=>exact absurd (j1 rfl) (by decide)
     |succ i=>rw[Nat.add_sub_cancel,kG];have:=j3 (by omega);rwa [Nat.add_sub_cancel] at this
  . rw[if_neg hc,Bool.and_eq_true,Bool.and_eq_true,decide_eq_true_eq,decide_eq_true_eq] at h
    cases i with
    |zero=>
     rw[mm]
     exact ⟨h.1.1,h.1.2,fun e=>absurd e hc⟩
    |succ i=>
     have ih:=uR r false h.2 i (by simpa using hi)
     rw[kG]
     refine ⟨ih.1,ih.2.1,fun e=>?_⟩
     obtain ⟨j1,j2,j3⟩:=ih.2.2 e
     refine ⟨fun h=>absurd h (by omega),by simpa using j2,fun _=>?_⟩
     cases i with
     |zero=>rw[mm];exact hc
     |succ i=>rw[Nat.add_sub_cancel,kG];have:=j3 (by omega);rwa [Nat.add_sub_cancel] at this
theorem uS {s:List UInt8}(h:jP true s=true)(h0:0< s.length)(hl:s.length≤256):cC s=0:=by
 have hb:¬BK s=true:=by
  intro hb
  obtain ⟨i,hi,hx⟩:=List.any_eq_true.1 hb
  obtain ⟨q1,q2,q3⟩:=uR s true h i (List.mem_range.1 hi)
  unfold eM at hx
  simp only[Bool.or_eq_true,Bool.and_eq_true,decide_eq_true_eq] at hx
  rcases hx with (hx|hx) | ⟨hx,hy⟩
  . exact absurd q1 (by simpa using hx)
  . exact absurd q2 (by simpa using hx)
  . obtain ⟨j1,j2,j3⟩:=q3 hx
    rcases hy with (hy|hy) |hy
    . exact absurd (j1 hy) (by decide)
    . exact j2 hy
    . rcases Nat.eq_zero_or_pos i with h0|h0
      . exact absurd (j1 h0) (by decide)
      . exact j3 h0 hy
 have ht:=jp s
 unfold cC
 rw[if_neg (by omega),if_neg hb,if_neg (by rintro rfl;simp at h0),if_neg (by omega)]
theorem yK (a b:List UInt8):dO (nS a b) =dO a++(dO b).map (BI (a.length+1)):=BJ a b
theorem Fp {α:Type}[Inhabited α](l r:List α)(t:Nat)(h:l.length≤t):gt (l++r) t=gt r (t - l.length):=by
 simp only[gt,List.getD]
 rw[List.getElem?_append_right h]
theorem Fq (k d:Nat)(x y:List Tok):oS k (x++y.map (BI d)) =oS k x++(oS k y).map (· +x.length):=by
 unfold oS
 rw[List.length_append,List.length_map,List.range_add,List.filter_append]
 congr 1
 . refine List.filter_congr fun i hi=>?_
   rw[In _ _ _ (List.mem_range.1 hi)]
 . rw[List.filter_map]
   have e:List.filter ((fun i=>decide ((gt (x++y.map (BI d)) i).k=k)) ∘fun i=>x.length+i) (List.range y.length) =List.filter (fun i=>decide ((gt y i).k=k)) (List.range y.length):=by
    refine List.filter_congr fun i hi=>?_
    simp only[Function.comp]
    rw[Fp _ _ _ (by omega),Nat.add_sub_cancel_left,LN _ _ _ (List.mem_range.1 hi)]
    rfl
   rw[e]
   refine List.map_congr_left fun i _=>?_
   omega
theorem qy (a b:List UInt8):cG (nS a b) =cG a++(cG b).map (· +(dO a).length):=by
 unfold cG
 rw[yK,Fq]
end Go.Sx
namespace Go.Sx
open Go.RowKit Go.Proofs
theorem y6: (List.range 108).all (fun n=>decide ((cG (iA n)).length=0)) =true:=by decide+kernel
theorem oU (l:List Int)(k:Nat):∀i,(cG (eE l k i)).length=0
 |0=>rfl
 |i+1=>by
  have hu: (cG (iA (cK l (k+1+i) 108))).length=0:=of_decide_eq_true (List.all_eq_true.1 y6 _ (List.mem_range.2 (er l (k+1+i) (by decide))))
  unfold eE
  split
  . have e:eE l k i++[32]++iA (cK l (k+1+i) 108) =nS (eE l k i) (iA (cK l (k+1+i) 108)):=by unfold nS;simp
    rw[e,qy,List.length_append,List.length_map,oU l k i,hu]
  . rename_i h
    obtain rfl:i=0:=by omega
    exact hu
theorem oW (l:List Int)(k:Nat): (cG (fR l k)).length=0:=oU l k _
theorem qP (l:List Int)(a:Nat):∀n,(cG (gX l a n)).length=n
 |0=>oW l _
 |n+1=>by
  have e:gX l a (n+1) =nS (gX l a n) [64]:=by show gX l a n++[32,64] =_;unfold nS;simp
  rw[e,qy,List.length_append,List.length_map,qP l a n]
  rfl
theorem vN (l:List Int)(a:Nat):∀n,jP true (gX l a n) =true∧0< (gX l a n).length
 |0=>⟨(jq l _).1,(jq l _).2.2⟩
 |n+1=>⟨nT _ _ [64] (vN l a n).1 (by decide),by show 0< (gX l a n++[32,64]).length;simp⟩
theorem CI (l:List Int)(k:Nat):cC (fR l k) =0:=by
 have h:=jq l k
 exact uS h.1 h.2.2 (by omega)
theorem Gw (l:List Int)(a n:Nat)(hn:n≤2):cC (gX l a n) =0:=by
 have h:=vN l a n
 have:=kJ l a n
 exact uS h.1 h.2 (by omega)
end Go.Sx
namespace Go.Sx
open Go.RowKit Go.Proofs
theorem xK {k:Nat}(h:k≤63):gz (((0:Nat):Int),(k:Int),((0:Nat):Int)) =true:=by
 unfold gz
 exact decide_eq_true ⟨by show (0:Int)≤0;decide,by show (0:Int) < 6;decide,by show (0:Int)≤k;omega,by show (k:Int)≤63;omega,by show (0:Int)≤0;decide,by show (0:Int) < 1024;decide⟩
theorem Lm (l:List Int)(a i:Nat):jf (rF l a i) =true:=by
 unfold rF
 split
 . exact Ha rfl
 . have:=er l (a+3+i) (m:=9) (by decide)
   exact Hb (xK (by omega))
theorem Ln (l:List Int)(a:Nat):gt formT (cK l a 8)≤3:=by
 have:=qx formT (fun n=>decide (n≤3)) (by decide) _ (er l a (m:=8) (by decide))
 simpa using this
theorem Gx (l:List Int)(a k:Nat)(h:k≤63):dL (aY l a (((0:Nat):Int),(k:Int),((0:Nat):Int))) =true:=by
 have h1:=Ln l a
 have h2:=er l (a+1) (m:=8) (by decide)
 have h3:=nW l a
 refine u0 (xK h) ⟨?_,?_,?_,?_⟩ (Gw l a _ h3) ?_ ?_
 . show (0:Int)≤((gt formT (cK l a 8):Nat):Int);omega
 . show ((gt formT (cK l a 8):Nat):Int) < 4;omega
 . show (0:Int)≤((cK l (a+1) 8 / 3:Nat):Int);omega
 . show ((cK l (a+1) 8 / 3:Nat):Int) < 4;omega
 . show (cG (gX l a (gI l a))).length= (jr l a (gI l a)).length
   rw[qP,mF]
 . refine List.all_eq_true.2 fun x hx=>?_
   have hx:x∈jr l a (gI l a):=hx
   unfold jr at hx
   obtain ⟨i,_,rfl⟩:=List.mem_map.1 hx
   exact Lm l a i
theorem CJ {p:aI}(h:dL p=true):dL (p.1,((0:Nat):Int),p.2.2) =true:=by
 unfold dL at h ⊢
 simp only[Bool.and_eq_true,decide_eq_true_eq] at h ⊢
 exact ⟨⟨⟨⟨h.1.1.1.1,by decide,by decide,h.1.1.1.2.2.2.1,h.1.1.1.2.2.2.2⟩,h.1.1.2⟩,h.1.2⟩,h.2⟩
theorem Lo {p:aI}(h:dL p=true)(j:Nat)(ps:List aI):dL (nv p j ps) =true:=by
 unfold nv
 split
 . exact CJ h
 . exact h
theorem xL (l:List Int)(n:Nat):∀j,n+j≤8→∀p,p∈fB l n j→dL p=true
 |0,_,p,hp=>by cases hp
 |j+1,h,p,hp=>by
  rw[fB,List.mem_append,List.mem_singleton] at hp
  rcases hp with hp|rfl
  . exact xL l n j (by omega) p hp
  . exact Lo (Gx l _ (n+j) (by omega)) _ _
theorem Lp (l:List aI)(p:aI)(i:Nat)(h:i< l.length):je (l++[p]) i=je l i:=by
 unfold je
 have e:∀k,k< l.length→gt (l++[p]) k=gt l k:=fun k hk=>by simp[gt,List.getD,List.getElem?_append_left hk]
 rw[e i h,e (i - 1) (by omega)]
theorem xM (l:List Int)(n:Nat):∀j i,i< j→je (fB l n j) i=true
 |j+1,i,h=>by
  have hl:=kn l n j
  rw[fB]
  by_cases hi:i< j
  . rw[Lp _ _ _ (by omega)];exact xM l n j i hi
  . obtain rfl:i=j:=by omega
    generalize hq:aY l (9+4*(n+i)) (((0:Nat):Int),((n+i:Nat):Int),((0:Nat):Int)) =q
    have e1:gt (fB l n i++[nv q i (fB l n i)]) i=nv q i (fB l n i):=by
     simp[gt,List.getD,List.getElem?_append_right,hl]
    unfold je
    rw[e1]
    by_cases hc:q.2.1= ((1:Nat):Int)∧(i=0∨(gt (fB l n i) (i - 1)).2.1= ((2:Nat):Int))
    . rw[yP hc.1 hc.2]
      rw[decide_eq_false (by show ¬ (((0:Nat):Int) = ((1:Nat):Int));decide)];rfl
    . rw[yQ hc]
      by_cases h1:q.2.1= ((1:Nat):Int)
      . have h2:¬i=0:=fun e=>hc ⟨h1,.inl e⟩
        have h3:¬ (gt (fB l n i) (i - 1)).2.1= ((2:Nat):Int):=fun e=>hc ⟨h1,.inr e⟩
        have e2:gt (fB l n i++[q]) (i - 1) =gt (fB l n i) (i - 1):=by
         simp[gt,List.getD,List.getElem?_append_left (show i - 1< (fB l n i).length by omega)]
        rw[e2,decide_eq_false h2,decide_eq_false h3];simp
      . rw[decide_eq_false h1];rfl
theorem CK (l:List Int)(i n:Nat)(h:n≤8):∀k,∀A,A∈ (d8 l i n k).1→fP A.1=true∧(∀p,p∈A.2→dL p=true)∧j7 A.2=true
 |0,A,hA=>by cases hA
 |k+1,A,hA=>by
  simp only[d8] at hA
  rw[List.mem_append,List.mem_singleton] at hA
  rcases hA with hA|rfl
  . exact CK l i n h k A hA
  . have h1:=lV l i n h k
    have h2:j6 l i k (d8 l i n k).2=min (1+cK l (5+2*i+k) 3) (8 - (d8 l i n k).2):=rfl
    refine ⟨BZ (CI l _) (oW l _),xL l _ _ (by omega),vI fun j hj=>?_⟩
    exact xM l _ _ j (by have:=hj;rwa [kn] at this)
theorem CL (l:List Int):∀i,∀V,V∈ (el l i).1→V.length≤2∧∀A,A∈V→fP A.1=true∧(∀p,p∈A.2→dL p=true)∧j7 A.2=true
 |0,V,hV=>by cases hV
 |i+1,V,hV=>by
  simp only[el] at hV
  rw[List.mem_append,List.mem_singleton] at hV
  rcases hV with hV|rfl
  . exact CL l i V hV
  . refine ⟨?_,CK l i _ (lW l i) _⟩
    rw[lU]
    have:=er l (1+i) (m:=2) (by decide);omega
theorem CM (l:List Int):eF (ib l) =0:=by
 have hv:=CL l (1+cK l 0 4 / 3)
 have h1:=xu l
 have h2:=er l 0 (m:=4) (by decide)
 have h3:=B8 l
 rw[←xJ]
 have hL:c7 (ib l) =false:=by
  unfold c7
  have e: (ib l).any (fun V=>decide (64< V.length)) =false:=by
   rw[←Bool.not_eq_true]
   intro q
   obtain ⟨V,hV,hq⟩:=List.any_eq_true.1 q
   have:=of_decide_eq_true hq
   have:=(hv V hV).1
   omega
  rw[e,decide_eq_false (by omega),decide_eq_false (by omega)];rfl
 have hO:js (ib l) =true:=by
  refine List.all_eq_true.2 fun p hp=>?_
  obtain ⟨V,hV,A,hA,hp⟩:=xl.1 hp
  exact ((hv V hV).2 A hA).2.1 p hp
 have hT:gY (ib l) =true:=List.all_eq_true.2 fun V hV=>List.all_eq_true.2 fun A hA=>((hv V hV).2 A hA).1
 have hS:rS (ib l) =true:=List.all_eq_true.2 fun V hV=>List.all_eq_true.2 fun A hA=>((hv V hV).2 A hA).2.2
 unfold gx
 rw[if_neg (by rw[hL];decide),if_neg (by rw[hO];decide),if_neg (by rw[hT];decide),if_neg (fun h=>h (B7 l)),if_neg (by rw[hS];decide)]
end Go.Sx
namespace Go.Sx
open Go.RowKit Go.Proofs
set_option maxRecDepth 100000
set_option maxHeartbeats 8000000
set_option maxRecDepth 100000
theorem Lq {w:ah}(h:eF w=0):js w=true:=by
 unfold eF at h
 split at h
 . omega
 . split at h
   . omega
   . rename_i h2;simpa using h2
theorem Lr {p:aI}(h:dL p=true):cC p.2.2.2.1=0∧(cG p.2.2.2.1).length=p.2.2.2.2.length:=by
 unfold dL at h
 simp only[Bool.and_eq_true,decide_eq_true_eq] at h
 exact ⟨h.1.1.2,h.1.2⟩
theorem Ls {w:ah}(h:eF w=0){k:Nat}(hk:k< (aZ w).length):cC (gt (aZ w) k).2.2.2.1=0∧(cG (gt (aZ w) k).2.2.2.1).length= (gt (aZ w) k).2.2.2.2.length:=
 Lr (List.all_eq_true.1 (Lq h) _ (bz _ k hk))
theorem fS {p:Prop}(e:p:=by intro KZ hZ;simp -implicitDefEqProofs (maxSteps:=2000000) (disch:=first|omega| (simp only[go_sem,lA,lD,lT,mH,hal] <;>omega) |decide) only[go_sem,↓reduceIte,Nat.reduceEqDiff,reduceCtorEq,Nat.reduceLT,Nat.reduceBEq,Nat.reduceAdd,e11,e12,e13,e14,e15,e16,h17,hV0,c1,c2,c3,hy];with_reducible exact hZ):p:=e
theorem SZ {p:Prop}(e:p:=by intro KZ hZ;simp -implicitDefEqProofs (maxSteps:=2000000) (disch:=first|omega| (simp only[go_sem,lA,lD,lT,mH,hal] <;>omega) |decide) only[go_sem,↓reduceIte,Nat.reduceEqDiff,reduceCtorEq,Nat.reduceLT,Nat.reduceBEq,Nat.reduceAdd,e11,e12,e13,e14,e15,e16,h17,hV0,c1,c2,c3,hy];with_reducible refine And.intro ?_ hZ;first|exact rfl|decide):p:=e
theorem S5 {p:Prop}(e:p:=by simp -implicitDefEqProofs (disch:=first|omega| (simp only[go_sem,lA,lD,lT,mH,hal] <;>omega) |decide) only[go_sem,↓reduceIte,Nat.reduceEqDiff,reduceCtorEq];all_goals (rfl)):p:=e
theorem Xe {gl:Nat→C}{M:Nat}{pu:Nat→List C→Option C}(hcx:CxOK (aD gl M pu))(h11:∀ (l:List Int) (how y:Int),LI l→(-9223372036854775808≤how∧how≤9223372036854775807)→(-9223372036854775808≤y∧y≤9223372036854775807)→pu 11 [sl iC .no l,.val (.int .i64 how),.val (.int .i64 y)] =some (sl k8 .full (gg l how y)))(h12:∀w:ah,WS w→(∀i,i< (aS w).length→(gt (aS w) i).2.2.2.2.1.length≤1000000)→(∀v a,v< w.length→a< (gt w v).length→(gt (gt w v) a).1.length≤1000000)→(∀i,i< (aS w).length→c9 (gt (aS w) i).2.1)→pu 12 [.agg [sl vC .no w]] =some (.val (nI (eF w))))(h13:∀w:ah,WG w→pu 13 [.agg [sl vC .no w]] =some (.val (nI (gx w))))(h14:∀w:ah,WS w→pu 14 [.agg [sl vC .no w]] =some (sl pC (.own 7) (aZ w)))(h15:∀s:List UInt8,s.length≤1000000→pu 15 [.val (str s)] =some (.val (nI (cC s))))(h16:∀s:List UInt8,s.length≤1000000→pu 16 [.val (str s)] =some (sl nC (.own 1) (cG s)))(h17:pu 17 [] =some (.val (.bool true)))(l:List Int)(how y:Int)(hl:LI l)(hho: (-9223372036854775808≤how∧how≤9223372036854775807))(hy0: (-9223372036854775808≤y∧y≤9223372036854775807)):FC Tryd.prog gl 3 [sl iC .no l,.val (.int .i64 how),.val (.int .i64 y)] [] (.val (.bool true)) []:=by
 replace hcx:=hcx.reN (M:=81)
 refine bI (cx:=aD gl 81 pu) (rs:=[.tmp 6]) rfl Tryd.func3 rfl rfl rfl (by simp only[List.length_cons,List.length_nil];decide) (by simp only[go_sem]) ?_
 simp only[cZ,go_sem]
 have c1:=True.intro
 have c2:=True.intro
 have c3:=True.intro
 have hy:=True.intro
 have e11:=h11 l how y hl hho hy0
 have e12:=True.intro
 have e13:=True.intro
 have e14:=True.intro
 have e15:=True.intro
 have e16:=True.intro
 have hal:=True.intro
 have hV0:=True.intro
 refine Tr.w hcx [] _ [] rfl rfl rfl ?_ fS
 refine Tr.w hcx [1000015] _ [] rfl rfl rfl ?_ fS
 refine ae fun K1 hK1=>?_
 refine Tr.w hcx [] _ [] rfl rfl rfl ?_ fS
 refine Tr.k [7,8] ?_
 refine am ?_
 refine aV (α:=Nat) (fun a=>[(7,?v7_1),(8,.val (nI a))]) (fun a=>[]) (fun a=>a≤(gg l how y).length) (fun a=>(gg l how y).length - a) (0) (Nat.zero_le _) ?le_1 ?hh_1 ?bd_1
 case hh_1=>exact rfl
 case le_1=>exact LT
 rintro i hi
 refine ae fun K2 hK2=>?_
 refine Tr.w hcx [] _ [] rfl rfl rfl ?_ fS
 refine aw rfl (fun hc19=>?_) (fun hc19=>?_)
 ·
  have hi4:i< 4:=by have:=hc19;rw[mH] at this;exact this
  have hg:=Gv l how y hho hy0 i hc19
  have hv0:i=0→eF (gt (gg l how y) i) =0:=fun e=>by subst e;exact CM l
  obtain ⟨w,hw⟩:∃w,gt (gg l how y) i=w:=⟨_,rfl⟩
  rw[hw] at hg hv0
  have hal:=hg.al
  have e12:=And.intro hw (h12 w hg.ws hg.tx hg.tt hg.id)
  have e13:=(h13 w hg).trans (by rw[xJ])
  have e14:=h14 w hg.ws
  have hPG:∀k,k< (aZ w).length→PG (gt (aZ w) k):=fun k hk=>by rw[eV] at hk;rw[jW w k hk];exact hg.pg hk
  refine Tr.skip ?_
  refine hK2 _ ?_
  refine ae fun K3 hK3=>?_
  refine am ?_
  refine Tr.w hcx [1000026] _ [] rfl rfl rfl ?_ fS
  refine Tr.k [7,8,9] ?_
  refine wv (α:=Unit) (fun a=>[(7,?v7_2),(8,?v8_2),(9,.val (nI (eF w)))]) (fun a=>[]) (fun a=>True) ?ja_2 ?jb_2
  case ja_2=>
   by_cases c1:i=0
   ·
    have hV0:=hv0 c1
    have c1o:=c1
    replace c1:=eq_true c1
    refine Tr.w hcx [] [some 27,some 28,some 29,some 30,some 31,some 32,some 33,some 34,some 35,some 36,some 37,some 38,some 39,some 40,some 41] [] rfl rfl rfl ?_ fS
    refine aO rfl ?_
    refine Tr.skip ?_
    refine ⟨(),tI,?_,rfl⟩
    (simp only[bQ,bl,↓bF,↓reduceIte,Nat.reduceEqDiff,ba,br,bc,bu,bv,and_true,true_and];all_goals (repeat' first|exact CLe.refl _|exact True.intro| (refine bH ?_;first|rfl| (simp only[List.take_zero];done)) |exact cU (by omega) |exact cM (by omega) |exact cN (by omega) |exact cO (by omega) |with_reducible apply And.intro))
    all_goals first|exact CLe.refl _| (rw[hV0];exact CLe.refl _)
   have c1o:=c1
   replace c1:=eq_false c1
   refine Tr.w hcx [] [some 27,some 28,some 29,some 30,some 31,some 32,some 33,some 34,some 35,some 36,some 37,some 38,some 39,some 40,some 41] [] rfl rfl rfl ?_ fS
   refine aO rfl ?_
   refine Tr.skip ?_
   refine ⟨(),tI,?_,rfl⟩
   (simp only[bQ,bl,↓bF,↓reduceIte,Nat.reduceEqDiff,ba,br,bc,bu,bv,and_true,true_and];all_goals (repeat' first|exact CLe.refl _|exact True.intro| (refine bH ?_;first|rfl| (simp only[List.take_zero];done)) |exact cU (by omega) |exact cM (by omega) |exact cN (by omega) |exact cO (by omega) |with_reducible apply And.intro))
   all_goals first|exact CLe.refl _| (rw[hV0];exact CLe.refl _)
  rintro a ha
  refine Tr.w hcx [1000046] _ [] rfl rfl rfl ?_ fS
  refine Tr.w hcx [] _ [] rfl rfl rfl ?_ fS
  refine Tr.k [7,8,9,10,11] ?_
  refine am ?_
  refine aV (α:=Nat) (fun a=>[(7,?v7_3),(8,?v8_3),(9,?v9_3),(10,?v10_3),(11,.val (nI a))]) (fun a=>[]) (fun a=>a≤(aZ w).length) (fun a=>(aZ w).length - a) (0) (Nat.zero_le _) ?le_3 ?hh_3 ?bd_3
  case hh_3=>exact rfl
  case le_3=>exact LT
  rintro k hk
  refine ae fun K4 hK4=>?_
  by_cases c2:k< (aZ w).length
  ·
   have c2o:=c2
   replace c2:=eq_true c2
   by_cases c3:eF w=0
   ·
    have c3o:=c3
    replace c3:=eq_true c3
    skip
    refine Tr.w hcx [] [some 47,some 48,some 49,some 50,some 51,some 52,some 53,some 54] [] rfl rfl rfl ?_ fS
    refine bn rfl ?_
    refine Tr.skip ?_
    refine hK4 _ ?_
    refine Tr.k [7,8,9,10,11] ?_
    refine ae fun K5 hK5=>?_
    refine am ?_
    have hT:=Ls c3o c2o
    have e15:=(h15 _ (hPG k c2o).1).trans (by rw[hT.1])
    have e16:=And.intro (h16 _ (hPG k c2o).1) hT.2
    refine fh hcx eG [] [some 57,some 58,some 59,some 60,some 61,some 62,some 63,some 64,some 65,some 66,some 67,some 68,some 69,some 70,some 71,some 72,some 73,some 74,some 75,some 76,some 77,some 78,some 79] [] rfl rfl rfl rfl ?_ SZ
    refine Tr.k [7,8,9,10,11,79] ?_
    refine aO rfl ?_
    refine Tr.skip ?_
    refine hK5 _ ?_
    refine Tr.v hcx [1000056] _ [] rfl rfl rfl ?_ fS
    exact ⟨k+1,⟨(by omega),O1⟩,LT,rfl⟩
   have c3o:=c3
   replace c3:=eq_false c3
   skip
   refine Tr.w hcx [] [some 47,some 48,some 49,some 50,some 51,some 52,some 53,some 54] [] rfl rfl rfl ?_ fS
   refine aO rfl ?_
   refine Tr.exit ?_
   refine hK3 _ ?_
   refine Tr.v hcx [1000021] _ [] rfl rfl rfl ?_ fS
   exact ⟨i+1,⟨(by omega),O1⟩,LT,rfl⟩
  have c2o:=c2
  replace c2:=eq_false c2
  have c3:=True.intro
  refine Tr.w hcx [] [some 47,some 48,some 49,some 50,some 51,some 52,some 53,some 54] [] rfl rfl rfl ?_ fS
  refine aO rfl ?_
  refine Tr.exit ?_
  refine hK3 _ ?_
  refine Tr.v hcx [1000021] _ [] rfl rfl rfl ?_ fS
  exact ⟨i+1,⟨(by omega),O1⟩,LT,rfl⟩
 refine Tr.exit ?_
 refine hK1 _ ?_
 refine Tr.w hcx [1000080] _ [] rfl rfl rfl ?_ fS
 exact Tr.ret S5
end Go.Sx
