/-
   And what follows.
-/
import Derived.Test.YtmoaeemdlompaaaDoorPat
import Derived.Test.YtmoaeemdlompaaaDoorPas
set_option linter.unusedSimpArgs false
set_option linter.unusedVariables false
namespace Go.Sx
open Go.RowKit Go.Proofs
def u0 (s t:List UInt8) :Prop:= ¬s=t∧(h16 s).1= (h16 t).1
theorem tn {TS:List (List UInt8)} {s t:List UInt8} (hs:s∈TS) (ht:t∈TS) (h:u0 s t) :tm TS:=by
 obtain ⟨i,hi,rfl⟩ :=List.getElem_of_mem hs
 obtain ⟨k,hk,rfl⟩ :=List.getElem_of_mem ht
 have g: ∀ (j:Nat) (hj:j< TS.length),gt TS j=TS[j] :=fun j hj=>by simp only[gt,List.getD];rw[List.getElem?_eq_getElem hj];rfl
 have hne:i≠k:=fun e=>by subst e;exact h.1 rfl
 by_cases hlt:k< i
 · refine ⟨i,k,hi,hlt,?_⟩
   unfold fq;rw[g i hi,g k hk];exact h
 · refine ⟨k,i,hk,by omega,?_⟩
   unfold fq;rw[g i hi,g k hk];exact ⟨fun e=>h.1 e.symm,h.2.symm⟩
theorem CY {tag:Int} {a b:List (List UInt8)} (ha: ∀s∈a,s.length< 1000000) (hb: ∀s∈b,s.length< 1000000) (h:cL tag a=cL tag b) :a=b:=by
 unfold cL at h
 exact ue a b (fun s hs=>by have:=ha s hs;omega) (fun s hs=>by have:=hb s hs;omega) (List.cons.inj h).2
theorem rK {tag:Int} {a b:List (List UInt8)} (ha: ∀s∈a,s.length< 1000000) (hb: ∀s∈b,s.length< 1000000) (h:ofT tag a=ofT tag b) :a=b∨u0 (cL tag a) (cL tag b) :=by
 by_cases e:cL tag a=cL tag b
 · exact .inl (CY ha hb e)
 · exact .inr ⟨e,h⟩
theorem mB {x y:List UInt8} (hx:x.length< 1000000) (hy:y.length< 1000000) : ∀s∈ [x,y],s.length< 1000000:=fun s hs=>by
 rcases List.mem_cons.1 hs with rfl|hs
 · exact hx
 · rw[List.mem_singleton.1 hs];exact hy
theorem CZ {x:List UInt8} (hx:x.length< 1000000) : ∀s∈ [x],s.length< 1000000:=fun s hs=>by rw[List.mem_singleton.1 hs];exact hx
def nM (l:List ab) :Nat→Nat→Nat→List (List UInt8)
 |0,a,_=> [cL 3 [(gt l a).1,(gt l a).2]]
 |d+1,a,b=>if b - a≤1 then [cL 3 [(gt l a).1,(gt l a).2]] else nM l d a (a+aV (b - a))++nM l d (a+aV (b - a)) b++[cL 4 [dD l d a (a+aV (b - a)),dD l d (a+aV (b - a)) b]]
theorem z0 {l:List ab} {d a b:Nat} (h:b - a≤1) :nM l d a b= [cL 3 [(gt l a).1,(gt l a).2]] :=by cases d<;>simp only[nM,if_pos h]
theorem u2 {l:List ab} {d a b:Nat} (h: ¬b - a≤1) :nM l (d+1) a b=nM l d a (a+aV (b - a))++nM l d (a+aV (b - a)) b++[cL 4 [dD l d a (a+aV (b - a)),dD l d (a+aV (b - a)) b]] :=by simp only[nM,if_neg h]
theorem tp (l:List ab) (S:List cf) : ∀d a b (st:TS),a< b→b≤l.length→b - a≤2 ^ d→(bX l 0 S d a b st).2.1=st.1++nM l d a b
 |0,a,b,st,h1,h2,h3=>by
  have h3':b - a≤1:=h3
  rw[fl (by omega) h3',z0 h3'];rfl
 |d+1,a,b,st,h1,h2,h3=>by
  by_cases e:b - a≤1
  · rw[fl (by omega) e,z0 e];rfl
  · have hh:=fO (n:=b - a) (by omega)
    have hh2:=fu (by omega) h3
    rw[j6 (by omega) e,u2 e]
    simp only[lh]
    have g1:=tp l S d a (a+aV (b - a)) st (by omega) (by omega) (by omega)
    have g2:=tp l S d (a+aV (b - a)) b (bX l 0 S d a (a+aV (b - a)) st).2 (by omega) (by omega) (by omega)
    rw[g2,g1,r9 ⟨by omega,by omega,by omega⟩,r9 ⟨by omega,by omega,by omega⟩]
    simp only[List.append_assoc]
theorem Lt {l:List ab} (h:OkL l) (i:Nat) : (gt l i).1.length< 1000000∧(gt l i).2.length< 1000000:=rI h.lz i
theorem Lu {n m:Nat} (hn:n≤4096) (hm:m≤4096) (h:cX ((n:Nat) :Int) =cX ((m:Nat) :Int)) :n=m:=by
 have h1:=uS ((n:Nat) :Int) (by omega) []
 have h2:=uS ((m:Nat) :Int) (by omega) []
 rw[h] at h1
 have:=h1.symm.trans h2
 simp only[Prod.mk.injEq] at this
 omega
def rL (l:List ab) :List (List UInt8) :=if l.length=0 then [cX ((0:Nat) :Int)] else [cX ((l.length:Nat) :Int),dD l 12 0 l.length]
theorem PO (l:List ab) :dE l=ofT 4 (rL l) :=by
 unfold dE gB rL jD
 split
 · rfl
 · rfl
theorem PP {l:List ab} (h:l.length≤4096) : ∀s∈rL l,s.length< 1000000:=by
 unfold rL
 split
 · exact CZ (kR 0 (by omega))
 · exact mB (kR _ h) (by rw[fA];omega)
theorem C0 {l:List ab} (h:l.length≤4096) :iU l= (if l.length=0 then [] else nM l 12 0 l.length)++[cL 4 (rL l)] :=by
 unfold iU rL
 by_cases e:l.length=0
 · rw[n8 e,if_pos e,if_pos e,e]
 · rw[mE e,if_neg e,if_neg e,r9 ⟨by omega,Nat.le_refl _,h⟩]
   show (bX l 0 [] 12 0 l.length ([],0,false)).2.1++_=_
   rw[tp l [] 12 0 l.length _ (by omega) (Nat.le_refl _) h]
   try rfl
theorem C1 {a b:List ab} (h:a.length=b.length) (h2: ∀i,i< a.length→gt a i=gt b i) :a=b:=by
 apply List.ext_getElem h
 intro i h3 h4
 have:=h2 i h3
 rwa [gtI h3,gtI h4] at this
where gtI {l:List ab} {i:Nat} (h:i< l.length) :gt l i=l[i] :=by simp only[gt,List.getD];rw[List.getElem?_eq_getElem h];rfl
end Go.Sx
namespace Go.Sx
open Go.RowKit Go.Proofs
theorem qR (l:List ab) (f:Nat) (S:List cf) : ∀d a b (st:TS) {s:List UInt8},s∈st.1→s∈ (bX l f S d a b st).2.1
 |0,a,b,st,s,h=>by
  unfold bX;split
  · unfold fY;split<;>exact h
  · exact List.mem_append_left _ h
 |d+1,a,b,st,s,h=>by
  unfold bX;split
  · unfold fY;split<;>exact h
  · split
    · exact List.mem_append_left _ h
    · exact List.mem_append_left _ (qR l f S d _ b _ (qR l f S d a _ st h))
theorem PQ {a l:List ab} (ha:OkL a) (hl:LZ l) {f:Nat} (S:List cf) : ∀d x y (st:TS),x< y→y≤a.length→y - x≤2 ^ d→(bX l f S d x y st).1=dD a d x y→
 (∀i,x≤i→i< y→f≤i→i< f+l.length→gt l (i - f) =gt a i)∨∃s∈ (bX l f S d x y st).2.1,∃t∈nM a d x y,u0 s t:=by
 intro d
 have leaf: ∀ {d x y} (st:TS),x< y→y - x≤1→(bX l f S d x y st).1=dD a d x y→(∀i,x≤i→i< y→f≤i→i< f+l.length→gt l (i - f) =gt a i)∨∃s∈ (bX l f S d x y st).2.1,∃t∈nM a d x y,u0 s t:=by
  intro d x y st h1 e h4
  by_cases hs:y≤f∨f+l.length≤x
  · exact .inl fun i q1 q2 q3 q4=>by omega
  · rw[fl hs e,n7 e] at h4
    have la:=Lt ha x
    have lb:=rI hl (x - f)
    rcases rK (mB lb.1 lb.2) (mB la.1 la.2) h4 with q|q
    · refine .inl fun i hi hi2 _ _=> ?_
      obtain rfl:i=x:=by omega
      simp only[List.cons.injEq,and_true] at q
      exact Prod.ext q.1 q.2
    · exact .inr ⟨_,by rw[fl hs e];exact List.mem_append_right _ (List.mem_singleton.2 rfl),_,by rw[z0 e];exact List.mem_singleton.2 rfl,q⟩
 induction d with
 |zero=>exact fun x y st h1 h2 h3 h4=>leaf st h1 h3 h4
 |succ d ih=>
  intro x y st h1 h2 h3 h4
  by_cases e:y - x≤1
  · exact leaf st h1 e h4
  · by_cases hs:y≤f∨f+l.length≤x
    · exact .inl fun i q1 q2 q3 q4=>by omega
    · have hh:=fO (n:=y - x) (by omega)
      have hh2:=fu (by omega) h3
      rw[j6 hs e] at h4 ⊢
      rw[rY e] at h4
      simp only[lh] at h4 ⊢
      have e1:=gD l f S d x (x+aV (y - x)) st
      have e2:=gD l f S d (x+aV (y - x)) y (bX l f S d x (x+aV (y - x)) st).2
      have L: ∀ (l:List ab) (d a b:Nat),(dD l d a b).length< 1000000:=fun l d a b=>by rw[fA];omega
      rcases rK (mB (by omega) (by omega)) (mB (L _ _ _ _) (L _ _ _ _)) h4 with q|q
      · simp only[List.cons.injEq,and_true] at q
        rcases ih x (x+aV (y - x)) st (by omega) (by omega) (by omega) q.1 with g| ⟨s,hs,t,ht,c⟩
        · rcases ih (x+aV (y - x)) y _ (by omega) (by omega) (by omega) q.2 with g'| ⟨s,hs,t,ht,c⟩
          · refine .inl fun i hi hi2=> ?_
            by_cases hx:i< x+aV (y - x)
            · exact g i hi hx
            · exact g' i (by omega) hi2
          · exact .inr ⟨s,List.mem_append_left _ hs,t,by rw[u2 e];exact List.mem_append_left _ (List.mem_append_right _ ht),c⟩
        · exact .inr ⟨s,List.mem_append_left _ (qR l f S d _ y _ hs),t,by rw[u2 e];exact List.mem_append_left _ (List.mem_append_left _ ht),c⟩
      · exact .inr ⟨_,List.mem_append_right _ (List.mem_singleton.2 rfl),_,by rw[u2 e];exact List.mem_append_right _ (List.mem_singleton.2 rfl),q⟩
theorem PR (a:List ab) (h:a.length≤4096) :cL 4 (rL a) ∈iU a:=by rw[C0 h];exact List.mem_append_right _ (List.mem_singleton.2 rfl)
theorem C2 {a l:List ab} {f z:Int} {S:List cf} (ha:cW a=0) (h:dZ (dE a) f z l S=true) :
 (z=a.length∧0≤f∧f+l.length≤a.length∧l= (a.drop f.toNat).take l.length)∨tm (iU a++jA f z l S) :=by
 have oa:=gX (l:=a) (by omega)
 have hs:=te h
 have ol:=gX (l:=l) (by omega)
 obtain ⟨z,rfl⟩ : ∃n:Nat,z= (n:Int) := ⟨z.toNat,by omega⟩
 obtain ⟨f,rfl⟩ : ∃n:Nat,f= (n:Int) := ⟨f.toNat,by omega⟩
 have hb: ¬gf (f:Int) (z:Int) l:=fun q=>by rw[jY (Or.inl q)] at h;cases h
 have hb2: ¬ (0< z∧l.length=0) :=fun q=>by rw[jY (Or.inr ⟨by omega,q.2⟩)] at h;cases h
 have hc: ¬jn (f:Int) (z:Int) l:=fun q=>by unfold jn at q;omega
 rw[Pv hb hb2] at h
 simp only[Bool.and_eq_true,decide_eq_true_eq] at h
 have hd:=h.2
 rw[IU hc]
 rw[PO] at hd
 have ra:=PP oa.1
 have ia:=PR a oa.1
 by_cases hz:z=0
 · have hr:dN l f S z ([],0,false) = (ofT 4 [cX ((z:Nat) :Int)],([cL 4 [cX ((z:Nat) :Int)]],0,false)) :=by rw[n8 hz];subst hz;rfl
   rw[hr] at hd ⊢
   rcases rK (CZ (kR z (by omega))) ra hd with q|q
   · unfold rL at q
     by_cases e:a.length=0
     · left
       have el:l.length=0:=by omega
       exact ⟨by omega,by omega,by omega,by rw[List.eq_nil_of_length_eq_zero el];rfl⟩
     · rw[if_neg e] at q;simp at q
   · exact .inr (tn (List.mem_append_right _ (List.mem_singleton.2 rfl)) (List.mem_append_left _ ia) q)
 · rw[mE hz] at hd ⊢
   have e1:=gD l f S 12 0 z ([],0,false)
   rcases rK (mB (kR z (by omega)) (by omega)) ra hd with q|q
   · unfold rL at q
     by_cases e:a.length=0
     · rw[if_pos e] at q;simp at q
     · rw[if_neg e] at q
       simp only[List.cons.injEq,and_true] at q
       have hn:=Lu (by omega) oa.1 q.1
       have q2:=q.2
       rw[hn] at q2
       rcases PQ oa ol.lz S 12 0 a.length ([],0,false) (by omega) (Nat.le_refl _) oa.1 q2 with g| ⟨s,hs',t,ht,c⟩
       · refine .inl ⟨by omega,by omega,by omega,?_⟩
         refine C1 (by rw[List.length_take,List.length_drop];omega) fun i hi=> ?_
         rw[show ((f:Nat) :Int).toNat=f from rfl,fB a f l.length i (by omega) hi,←g (f+i) (by omega) (by omega) (by omega) (by omega),Nat.add_sub_cancel_left]
       · refine .inr (tn (List.mem_append_right _ ?_) (List.mem_append_left _ ?_) c)
         · rw[hn];exact List.mem_append_left _ hs'
         · rw[C0 oa.1,if_neg e];exact List.mem_append_left _ ht
   · exact .inr (tn (List.mem_append_right _ (List.mem_append_right _ (List.mem_singleton.2 rfl))) (List.mem_append_left _ ia) q)
theorem PS {a l:List ab} {f z:Int} {S:List cf} (ha:cW a=0) (k:List UInt8) (h: (er (dE a) k f z l S).2.2=0) :
 er (dE a) k f z l S= (if t8 a k then (gt a (bu a k)).2 else [],decide (t8 a k),0)∨tm (iU a++jA f z l S) :=by
 have hs:=fX ha
 cases hu:dZ (dE a) f z l S with
 |false=>rw[IJ hu] at h;simp at h
 |true=>
  rcases C2 ha hu with ⟨h1,h2,h3,h4⟩ |c
  · left
    obtain ⟨f,rfl⟩ : ∃n:Nat,f= (n:Int) := ⟨f.toNat,by omega⟩
    rw[show ((f:Nat) :Int).toNat=f from rfl] at h4
    have hle:=e7 a k
    have hf:=qQ hs k f l.length (by omega)
    rw[←h4] at hf
    have gs: ∀i,i< l.length→gt l i=gt a (f+i) :=fun i hi=>by rw[h4];exact fB a f _ i (by omega) hi
    by_cases hi:bu l k< l.length∧(gt l (bu l k)).1=k
    · have g:=gs _ hi.1
      have hk: (gt a (f+bu l k)).1=k:=by rw[←g];exact hi.2
      have hp:=ti hs (j:=f+bu l k) (by omega) hk
      have it:t8 a k:= ⟨by omega,by rw[hp];exact hk⟩
      rw[uY rfl hu hi.1 hi.2,if_pos it,decide_eq_true it,g,hp]
    · by_cases hc: (0< bu l k∨f=0)∧(bu l k< l.length∨(f:Int)+l.length=z)
      · have it: ¬t8 a k:=fun ⟨p1,p2⟩ =>by
         by_cases q:f≤bu a k∧bu a k< f+l.length
         · have e:bu l k=bu a k - f:=by omega
           refine hi ⟨by omega,?_⟩
           rw[gs _ (by omega),e,show f+(bu a k - f) =bu a k by omega];exact p2
         · omega
        rw[oO rfl hu hi (by omega),if_neg it,decide_eq_false it]
      · rw[oP rfl hu hi (by omega)] at h;simp at h
  · exact .inr c
theorem PT {a l:List ab} {f z:Int} {S:List cf} (ha:cW a=0) (x y:List UInt8) (h: (fp (dE a) x y f z l S).2=0) :
 (fp (dE a) x y f z l S).1=ic a x y a.length∨tm (iU a++jA f z l S) :=by
 have hs:=fX ha
 cases hb:bl y x with
 |true=>rw[IK hb] at h;simp at h
 |false=>
  cases hu:dZ (dE a) f z l S with
  |false=>rw[IL hb hu] at h;simp at h
  |true=>
   rcases C2 ha hu with ⟨h1,h2,h3,h4⟩ |c
   · left
     obtain ⟨f,rfl⟩ : ∃n:Nat,f= (n:Int) := ⟨f.toNat,by omega⟩
     rw[show ((f:Nat) :Int).toNat=f from rfl] at h4
     have hx:=e7 a x
     have hy:=e7 a y
     have hm:=lQ hs hb
     have fx:=qQ hs x f l.length (by omega)
     have fy:=qQ hs y f l.length (by omega)
     rw[←h4] at fx fy
     have gs: ∀i,i< l.length→gt l i=gt a (f+i) :=fun i hi=>by rw[h4];exact fB a f _ i (by omega) hi
     by_cases hc: (0< (f:Int)∧bu l x=0)∨((f:Int)+l.length< z∧bu l y=l.length)
     · rw[uZ rfl rfl hb hu hc] at h;simp at h
     · rw[oQ rfl rfl hb hu hc,CB hs x y _ (Nat.le_refl _),Nat.min_eq_right hy]
       refine C1 (by rw[List.length_take,List.length_drop,List.length_drop,List.length_take];omega) fun i hi=> ?_
       rw[List.length_take,List.length_drop] at hi
       have e1:gt ((l.drop (bu l x)).take (bu l y - bu l x)) i=gt l (bu l x+i) :=fB l (bu l x) (bu l y - bu l x) i (by omega) (by omega)
       have e2:gt ((a.take (bu a y)).drop (bu a x)) i=gt a (bu a x+i) :=by
        simp only[gt,List.getD,List.getElem?_drop,List.getElem?_take]
        rw[if_pos (by omega)]
       have e3:=gs (bu l x+i) (by omega)
       rw[e1,e2,e3]
       congr 1
       omega
   · exact .inr c
end Go.Sx
