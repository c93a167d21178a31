/-
   And what follows.
-/
import Derived.Test.YtmoaeemdlompaaaDoorPat
import Derived.Test.YtmoaeemdlompaaaDoorPas
set_option linter.unusedSimpArgs false
set_option linter.unusedVariables false
namespace Go.Sx
open Go.RowKit Go.Proofs
def uY (s t:List UInt8) :Prop:= ¬s=t∧(h16 s).1= (h16 t).1
theorem tm {TS:List (List UInt8)} {s t:List UInt8} (hs:s∈TS) (ht:t∈TS) (h:uY s t) :tl TS:=by
 obtain ⟨i,hi,rfl⟩ :=List.getElem_of_mem hs
 obtain ⟨k,hk,rfl⟩ :=List.getElem_of_mem ht
 have g: ∀ (j:Nat) (hj:j< TS.length),gt TS j=TS[j] :=fun j hj=>by simp only[gt,List.getD];rw[List.getElem?_eq_getElem hj];rfl
 have hne:i≠k:=fun e=>by subst e;exact h.1 rfl
 by_cases hlt:k< i
 · refine ⟨i,k,hi,hlt,?_⟩
   unfold fp;rw[g i hi,g k hk];exact h
 · refine ⟨k,i,hk,by omega,?_⟩
   unfold fp;rw[g i hi,g k hk];exact ⟨fun e=>h.1 e.symm,h.2.symm⟩
theorem CW {tag:Int} {a b:List (List UInt8)} (ha: ∀s∈a,s.length< 1000000) (hb: ∀s∈b,s.length< 1000000) (h:cK tag a=cK tag b) :a=b:=by
 unfold cK at h
 exact uc a b (fun s hs=>by have:=ha s hs;omega) (fun s hs=>by have:=hb s hs;omega) (List.cons.inj h).2
theorem rJ {tag:Int} {a b:List (List UInt8)} (ha: ∀s∈a,s.length< 1000000) (hb: ∀s∈b,s.length< 1000000) (h:ofT tag a=ofT tag b) :a=b∨uY (cK tag a) (cK tag b) :=by
 by_cases e:cK tag a=cK tag b
 · exact .inl (CW ha hb e)
 · exact .inr ⟨e,h⟩
theorem mA {x y:List UInt8} (hx:x.length< 1000000) (hy:y.length< 1000000) : ∀s∈ [x,y],s.length< 1000000:=fun s hs=>by
 rcases List.mem_cons.1 hs with rfl|hs
 · exact hx
 · rw[List.mem_singleton.1 hs];exact hy
theorem CX {x:List UInt8} (hx:x.length< 1000000) : ∀s∈ [x],s.length< 1000000:=fun s hs=>by rw[List.mem_singleton.1 hs];exact hx
def nL (l:List ab) :Nat→Nat→Nat→List (List UInt8)
 |0,a,_=> [cK 3 [(gt l a).1,(gt l a).2]]
 |d+1,a,b=>if b - a≤1 then [cK 3 [(gt l a).1,(gt l a).2]] else nL l d a (a+aU (b - a))++nL l d (a+aU (b - a)) b++[cK 4 [dB l d a (a+aU (b - a)),dB l d (a+aU (b - a)) b]]
theorem zY {l:List ab} {d a b:Nat} (h:b - a≤1) :nL l d a b= [cK 3 [(gt l a).1,(gt l a).2]] :=by cases d<;>simp only[nL,if_pos h]
theorem uZ {l:List ab} {d a b:Nat} (h: ¬b - a≤1) :nL l (d+1) a b=nL l d a (a+aU (b - a))++nL l d (a+aU (b - a)) b++[cK 4 [dB l d a (a+aU (b - a)),dB l d (a+aU (b - a)) b]] :=by simp only[nL,if_neg h]
theorem tn (l:List ab) (S:List ce) : ∀d a b (st:TS),a< b→b≤l.length→b - a≤2 ^ d→(bW l 0 S d a b st).2.1=st.1++nL l d a b
 |0,a,b,st,h1,h2,h3=>by
  have h3':b - a≤1:=h3
  rw[fj (by omega) h3',zY h3'];rfl
 |d+1,a,b,st,h1,h2,h3=>by
  by_cases e:b - a≤1
  · rw[fj (by omega) e,zY e];rfl
  · have hh:=fN (n:=b - a) (by omega)
    have hh2:=fq (by omega) h3
    rw[j5 (by omega) e,uZ e]
    simp only[lg]
    have g1:=tn l S d a (a+aU (b - a)) st (by omega) (by omega) (by omega)
    have g2:=tn l S d (a+aU (b - a)) b (bW l 0 S d a (a+aU (b - a)) st).2 (by omega) (by omega) (by omega)
    rw[g2,g1,r8 ⟨by omega,by omega,by omega⟩,r8 ⟨by omega,by omega,by omega⟩]
    simp only[List.append_assoc]
theorem Lr {l:List ab} (h:OkL l) (i:Nat) : (gt l i).1.length< 1000000∧(gt l i).2.length< 1000000:=rH h.lz i
theorem Ls {n m:Nat} (hn:n≤4096) (hm:m≤4096) (h:cW ((n:Nat) :Int) =cW ((m:Nat) :Int)) :n=m:=by
 have h1:=uQ ((n:Nat) :Int) (by omega) []
 have h2:=uQ ((m:Nat) :Int) (by omega) []
 rw[h] at h1
 have:=h1.symm.trans h2
 simp only[Prod.mk.injEq] at this
 omega
def rK (l:List ab) :List (List UInt8) :=if l.length=0 then [cW ((0:Nat) :Int)] else [cW ((l.length:Nat) :Int),dB l 12 0 l.length]
theorem PM (l:List ab) :dD l=ofT 4 (rK l) :=by
 unfold dD gA rK jC
 split
 · rfl
 · rfl
theorem PN {l:List ab} (h:l.length≤4096) : ∀s∈rK l,s.length< 1000000:=by
 unfold rK
 split
 · exact CX (kQ 0 (by omega))
 · exact mA (kQ _ h) (by rw[fw];omega)
theorem CY {l:List ab} (h:l.length≤4096) :iT l= (if l.length=0 then [] else nL l 12 0 l.length)++[cK 4 (rK l)] :=by
 unfold iT rK
 by_cases e:l.length=0
 · rw[n7 e,if_pos e,if_pos e,e]
 · rw[mD e,if_neg e,if_neg e,r8 ⟨by omega,Nat.le_refl _,h⟩]
   show (bW l 0 [] 12 0 l.length ([],0,false)).2.1++_=_
   rw[tn l [] 12 0 l.length _ (by omega) (Nat.le_refl _) h]
   try rfl
theorem CZ {a b:List ab} (h:a.length=b.length) (h2: ∀i,i< a.length→gt a i=gt b i) :a=b:=by
 apply List.ext_getElem h
 intro i h3 h4
 have:=h2 i h3
 rwa [gtI h3,gtI h4] at this
where gtI {l:List ab} {i:Nat} (h:i< l.length) :gt l i=l[i] :=by simp only[gt,List.getD];rw[List.getElem?_eq_getElem h];rfl
end Go.Sx
namespace Go.Sx
open Go.RowKit Go.Proofs
theorem qQ (l:List ab) (f:Nat) (S:List ce) : ∀d a b (st:TS) {s:List UInt8},s∈st.1→s∈ (bW l f S d a b st).2.1
 |0,a,b,st,s,h=>by
  unfold bW;split
  · unfold fX;split<;>exact h
  · exact List.mem_append_left _ h
 |d+1,a,b,st,s,h=>by
  unfold bW;split
  · unfold fX;split<;>exact h
  · split
    · exact List.mem_append_left _ h
    · exact List.mem_append_left _ (qQ l f S d _ b _ (qQ l f S d a _ st h))
theorem PO {a l:List ab} (ha:OkL a) (hl:LZ l) {f:Nat} (S:List ce) : ∀d x y (st:TS),x< y→y≤a.length→y - x≤2 ^ d→(bW l f S d x y st).1=dB a d x y→
 (∀i,x≤i→i< y→f≤i→i< f+l.length→gt l (i - f) =gt a i)∨∃s∈ (bW l f S d x y st).2.1,∃t∈nL a d x y,uY s t:=by
 intro d
 have leaf: ∀ {d x y} (st:TS),x< y→y - x≤1→(bW l f S d x y st).1=dB a d x y→(∀i,x≤i→i< y→f≤i→i< f+l.length→gt l (i - f) =gt a i)∨∃s∈ (bW l f S d x y st).2.1,∃t∈nL a d x y,uY s t:=by
  intro d x y st h1 e h4
  by_cases hs:y≤f∨f+l.length≤x
  · exact .inl fun i q1 q2 q3 q4=>by omega
  · rw[fj hs e,n6 e] at h4
    have la:=Lr ha x
    have lb:=rH hl (x - f)
    rcases rJ (mA lb.1 lb.2) (mA la.1 la.2) h4 with q|q
    · refine .inl fun i hi hi2 _ _=> ?_
      obtain rfl:i=x:=by omega
      simp only[List.cons.injEq,and_true] at q
      exact Prod.ext q.1 q.2
    · exact .inr ⟨_,by rw[fj hs e];exact List.mem_append_right _ (List.mem_singleton.2 rfl),_,by rw[zY e];exact List.mem_singleton.2 rfl,q⟩
 induction d with
 |zero=>exact fun x y st h1 h2 h3 h4=>leaf st h1 h3 h4
 |succ d ih=>
  intro x y st h1 h2 h3 h4
  by_cases e:y - x≤1
  · exact leaf st h1 e h4
  · by_cases hs:y≤f∨f+l.length≤x
    · exact .inl fun i q1 q2 q3 q4=>by omega
    · have hh:=fN (n:=y - x) (by omega)
      have hh2:=fq (by omega) h3
      rw[j5 hs e] at h4 ⊢
      rw[rX e] at h4
      simp only[lg] at h4 ⊢
      have e1:=gC l f S d x (x+aU (y - x)) st
      have e2:=gC l f S d (x+aU (y - x)) y (bW l f S d x (x+aU (y - x)) st).2
      have L: ∀ (l:List ab) (d a b:Nat),(dB l d a b).length< 1000000:=fun l d a b=>by rw[fw];omega
      rcases rJ (mA (by omega) (by omega)) (mA (L _ _ _ _) (L _ _ _ _)) h4 with q|q
      · simp only[List.cons.injEq,and_true] at q
        rcases ih x (x+aU (y - x)) st (by omega) (by omega) (by omega) q.1 with g| ⟨s,hs,t,ht,c⟩
        · rcases ih (x+aU (y - x)) y _ (by omega) (by omega) (by omega) q.2 with g'| ⟨s,hs,t,ht,c⟩
          · refine .inl fun i hi hi2=> ?_
            by_cases hx:i< x+aU (y - x)
            · exact g i hi hx
            · exact g' i (by omega) hi2
          · exact .inr ⟨s,List.mem_append_left _ hs,t,by rw[uZ e];exact List.mem_append_left _ (List.mem_append_right _ ht),c⟩
        · exact .inr ⟨s,List.mem_append_left _ (qQ l f S d _ y _ hs),t,by rw[uZ e];exact List.mem_append_left _ (List.mem_append_left _ ht),c⟩
      · exact .inr ⟨_,List.mem_append_right _ (List.mem_singleton.2 rfl),_,by rw[uZ e];exact List.mem_append_right _ (List.mem_singleton.2 rfl),q⟩
theorem PP (a:List ab) (h:a.length≤4096) :cK 4 (rK a) ∈iT a:=by rw[CY h];exact List.mem_append_right _ (List.mem_singleton.2 rfl)
theorem C0 {a l:List ab} {f z:Int} {S:List ce} (ha:cV a=0) (h:dY (dD a) f z l S=true) :
 (z=a.length∧0≤f∧f+l.length≤a.length∧l= (a.drop f.toNat).take l.length)∨tl (iT a++jz f z l S) :=by
 have oa:=gW (l:=a) (by omega)
 have hs:=tc h
 have ol:=gW (l:=l) (by omega)
 obtain ⟨z,rfl⟩ : ∃n:Nat,z= (n:Int) := ⟨z.toNat,by omega⟩
 obtain ⟨f,rfl⟩ : ∃n:Nat,f= (n:Int) := ⟨f.toNat,by omega⟩
 have hb: ¬gd (f:Int) (z:Int) l:=fun q=>by rw[jX (Or.inl q)] at h;cases h
 have hb2: ¬ (0< z∧l.length=0) :=fun q=>by rw[jX (Or.inr ⟨by omega,q.2⟩)] at h;cases h
 have hc: ¬jm (f:Int) (z:Int) l:=fun q=>by unfold jm at q;omega
 rw[Pt hb hb2] at h
 simp only[Bool.and_eq_true,decide_eq_true_eq] at h
 have hd:=h.2
 rw[IS hc]
 rw[PM] at hd
 have ra:=PN oa.1
 have ia:=PP a oa.1
 by_cases hz:z=0
 · have hr:dM l f S z ([],0,false) = (ofT 4 [cW ((z:Nat) :Int)],([cK 4 [cW ((z:Nat) :Int)]],0,false)) :=by rw[n7 hz];subst hz;rfl
   rw[hr] at hd ⊢
   rcases rJ (CX (kQ z (by omega))) ra hd with q|q
   · unfold rK at q
     by_cases e:a.length=0
     · left
       have el:l.length=0:=by omega
       exact ⟨by omega,by omega,by omega,by rw[List.eq_nil_of_length_eq_zero el];rfl⟩
     · rw[if_neg e] at q;simp at q
   · exact .inr (tm (List.mem_append_right _ (List.mem_singleton.2 rfl)) (List.mem_append_left _ ia) q)
 · rw[mD hz] at hd ⊢
   have e1:=gC l f S 12 0 z ([],0,false)
   rcases rJ (mA (kQ z (by omega)) (by omega)) ra hd with q|q
   · unfold rK at q
     by_cases e:a.length=0
     · rw[if_pos e] at q;simp at q
     · rw[if_neg e] at q
       simp only[List.cons.injEq,and_true] at q
       have hn:=Ls (by omega) oa.1 q.1
       have q2:=q.2
       rw[hn] at q2
       rcases PO oa ol.lz S 12 0 a.length ([],0,false) (by omega) (Nat.le_refl _) oa.1 q2 with g| ⟨s,hs',t,ht,c⟩
       · refine .inl ⟨by omega,by omega,by omega,?_⟩
         refine CZ (by rw[List.length_take,List.length_drop];omega) fun i hi=> ?_
         rw[show ((f:Nat) :Int).toNat=f from rfl,fA a f l.length i (by omega) hi,←g (f+i) (by omega) (by omega) (by omega) (by omega),Nat.add_sub_cancel_left]
       · refine .inr (tm (List.mem_append_right _ ?_) (List.mem_append_left _ ?_) c)
         · rw[hn];exact List.mem_append_left _ hs'
         · rw[CY oa.1,if_neg e];exact List.mem_append_left _ ht
   · exact .inr (tm (List.mem_append_right _ (List.mem_append_right _ (List.mem_singleton.2 rfl))) (List.mem_append_left _ ia) q)
theorem PQ {a l:List ab} {f z:Int} {S:List ce} (ha:cV a=0) (k:List UInt8) (h: (eo (dD a) k f z l S).2.2=0) :
 eo (dD a) k f z l S= (if t6 a k then (gt a (br a k)).2 else [],decide (t6 a k),0)∨tl (iT a++jz f z l S) :=by
 have hs:=fW ha
 cases hu:dY (dD a) f z l S with
 |false=>rw[IH hu] at h;simp at h
 |true=>
  rcases C0 ha hu with ⟨h1,h2,h3,h4⟩ |c
  · left
    obtain ⟨f,rfl⟩ : ∃n:Nat,f= (n:Int) := ⟨f.toNat,by omega⟩
    rw[show ((f:Nat) :Int).toNat=f from rfl] at h4
    have hle:=eZ a k
    have hf:=qP hs k f l.length (by omega)
    rw[←h4] at hf
    have gs: ∀i,i< l.length→gt l i=gt a (f+i) :=fun i hi=>by rw[h4];exact fA a f _ i (by omega) hi
    by_cases hi:br l k< l.length∧(gt l (br l k)).1=k
    · have g:=gs _ hi.1
      have hk: (gt a (f+br l k)).1=k:=by rw[←g];exact hi.2
      have hp:=th hs (j:=f+br l k) (by omega) hk
      have it:t6 a k:= ⟨by omega,by rw[hp];exact hk⟩
      rw[uW rfl hu hi.1 hi.2,if_pos it,decide_eq_true it,g,hp]
    · by_cases hc: (0< br l k∨f=0)∧(br l k< l.length∨(f:Int)+l.length=z)
      · have it: ¬t6 a k:=fun ⟨p1,p2⟩ =>by
         by_cases q:f≤br a k∧br a k< f+l.length
         · have e:br l k=br a k - f:=by omega
           refine hi ⟨by omega,?_⟩
           rw[gs _ (by omega),e,show f+(br a k - f) =br a k by omega];exact p2
         · omega
        rw[oN rfl hu hi (by omega),if_neg it,decide_eq_false it]
      · rw[oO rfl hu hi (by omega)] at h;simp at h
  · exact .inr c
theorem PR {a l:List ab} {f z:Int} {S:List ce} (ha:cV a=0) (x y:List UInt8) (h: (fo (dD a) x y f z l S).2=0) :
 (fo (dD a) x y f z l S).1=ib a x y a.length∨tl (iT a++jz f z l S) :=by
 have hs:=fW ha
 cases hb:bl y x with
 |true=>rw[II hb] at h;simp at h
 |false=>
  cases hu:dY (dD a) f z l S with
  |false=>rw[IJ hb hu] at h;simp at h
  |true=>
   rcases C0 ha hu with ⟨h1,h2,h3,h4⟩ |c
   · left
     obtain ⟨f,rfl⟩ : ∃n:Nat,f= (n:Int) := ⟨f.toNat,by omega⟩
     rw[show ((f:Nat) :Int).toNat=f from rfl] at h4
     have hx:=eZ a x
     have hy:=eZ a y
     have hm:=lP hs hb
     have fx:=qP hs x f l.length (by omega)
     have fy:=qP hs y f l.length (by omega)
     rw[←h4] at fx fy
     have gs: ∀i,i< l.length→gt l i=gt a (f+i) :=fun i hi=>by rw[h4];exact fA a f _ i (by omega) hi
     by_cases hc: (0< (f:Int)∧br l x=0)∨((f:Int)+l.length< z∧br l y=l.length)
     · rw[uX rfl rfl hb hu hc] at h;simp at h
     · rw[oP rfl rfl hb hu hc,Cz hs x y _ (Nat.le_refl _),Nat.min_eq_right hy]
       refine CZ (by rw[List.length_take,List.length_drop,List.length_drop,List.length_take];omega) fun i hi=> ?_
       rw[List.length_take,List.length_drop] at hi
       have e1:gt ((l.drop (br l x)).take (br l y - br l x)) i=gt l (br l x+i) :=fA l (br l x) (br l y - br l x) i (by omega) (by omega)
       have e2:gt ((a.take (br a y)).drop (br a x)) i=gt a (br a x+i) :=by
        simp only[gt,List.getD,List.getElem?_drop,List.getElem?_take]
        rw[if_pos (by omega)]
       have e3:=gs (br l x+i) (by omega)
       rw[e1,e2,e3]
       congr 1
       omega
   · exact .inr c
end Go.Sx
