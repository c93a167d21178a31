/-
   And what follows.
-/
import Derived.Test.YtmoaeemdlompaaaDoorPas
import Derived.Test.YtmoaeemdlompaaaDoorPap
import Derived.Test.YtmoaeemdlompaaaDoorPam
set_option linter.unusedSimpArgs false
set_option linter.unusedVariables false
namespace Go.Sx
open Go.RowKit Go.Proofs
set_option maxRecDepth 100000
set_option maxHeartbeats 8000000
abbrev h16 (t:List UInt8) :cf:= ⟨(eR t).take 16,by rw[List.length_take,tG];rfl⟩
def fq (TS:List (List UInt8)) (i k:Nat) :Prop:= ¬gt TS i=gt TS k∧(h16 (gt TS i)).1= (h16 (gt TS k)).1
def n5 (TS:List (List UInt8)) (i k:Nat) :Prop:= ∀q,q< k→¬fq TS i q
def qr (TS:List (List UInt8)) (i:Nat) :Prop:= ∀p,p< i→n5 TS p p
def tm (TS:List (List UInt8)) :Prop:= ∃i k,i< TS.length∧k< i∧fq TS i k
open Classical in
noncomputable def fM (TS:List (List UInt8)) :Bool:=decide (tm TS)
theorem lc {TS:List (List UInt8)} {i k:Nat} (hi:i< TS.length) (hk:k< i) (h:fq TS i k) :fM TS=true:=by
 classical exact decide_eq_true ⟨i,k,hi,hk,h⟩
theorem mA {TS:List (List UInt8)} (h:qr TS TS.length) :fM TS=false:=by
 classical exact decide_eq_false fun ⟨i,k,hi,hk,q⟩ =>h i hi k hk q
theorem oS (TS:List (List UInt8)) :qr TS 0:=fun p hp=>by omega
theorem oT (TS:List (List UInt8)) (i:Nat) :n5 TS i 0:=fun p hp=>by omega
theorem iX {TS:List (List UInt8)} {i k:Nat} (h:n5 TS i k) (h2: ¬fq TS i k) :n5 TS i (k+1) :=fun q hq=>by
 by_cases e:q=k
 · rw[e];exact h2
 · exact h q (by omega)
theorem oU {TS:List (List UInt8)} {i j:Nat} (h:qr TS i) (h2:n5 TS i j) (hj:j=i) :qr TS (i+1) :=fun p hp=>by
 by_cases e:p=i
 · rw[e];rw[hj] at h2;exact h2
 · exact h p (by omega)
theorem rI {l:List ab} (h:LZ l) (i:Nat) : (gt l i).1.length< 1000000∧(gt l i).2.length< 1000000:=by
 by_cases hi:i< l.length
 · exact h.2 i hi
 · have:gt l i= ([],[]) :=by simp[gt,List.getD,List.getElem?_eq_none (show l.length≤i by omega)];rfl
   rw[this];decide
def TB (T:List (List UInt8)) :Prop:= ∀t∈T,t.length< 35184372088832
theorem TB.snoc {T:List (List UInt8)} {t:List UInt8} (h:TB T) (h2:t.length< 35184372088832) :TB (T++[t]) :=fun x hx=>by
 rcases List.mem_append.1 hx with hx|hx
 · exact h x hx
 · rw[List.mem_singleton.1 hx];exact h2
theorem w6 {l:List ab} (hl:LZ l) (f:Nat) (S:List cf) : ∀d a b (st:TS),TB st.1→TB (bX l f S d a b st).2.1
 |0,a,b,st,h=>by
  unfold bX;split
  · unfold fY;split<;>exact h
  · have:=rI hl (a - f)
    exact h.snoc (by have:=fU 3 _ _ this.1 this.2;omega)
 |d+1,a,b,st,h=>by
  unfold bX;split
  · unfold fY;split<;>exact h
  · split
    · have:=rI hl (a - f)
      exact h.snoc (by have:=fU 3 _ _ this.1 this.2;omega)
    · have h1:=w6 hl f S d a (a+aV (b - a)) st h
      have h2:=w6 hl f S d (a+aV (b - a)) b _ h1
      exact h2.snoc (by have:=fU 4 _ _ (show (bX l f S d a (a+aV (b - a)) st).1.length< 1000000 by rw[gD];omega) (show (bX l f S d (a+aV (b - a)) b (bX l f S d a (a+aV (b - a)) st).2).1.length< 1000000 by rw[gD];omega);omega)
theorem kR (n:Nat) (h:n≤4096) : (cX ((n:Nat) :Int)).length< 1000000:=by
 have:=l7 n (by omega);omega
theorem CX {l:List ab} (hl:LZ l) (f:Nat) (S:List cf) (n:Nat) (hn:n≤4096) (st:TS) (h:TB st.1) :TB (dN l f S n st).2.1:=by
 by_cases e:n=0
 · rw[n8 e]
   exact h.snoc (by have:=qM 4 _ (kR n hn);omega)
 · rw[mE e]
   exact (w6 hl f S 12 0 n st h).snoc (by have:=fU 4 _ _ (kR n hn) (show (bX l f S 12 0 n st).1.length< 1000000 by rw[gD];omega);omega)
def jn (f z:Int) (l:List ab) :Prop:=z< 0∨4096< z∨f< 0∨z< f∨z - f< (l.length:Int)
instance (f z:Int) (l:List ab) :Decidable (jn f z l) :=by unfold jn;infer_instance
def iU (a:List ab) :List (List UInt8) := (dN a 0 [] a.length ([],0,false)).2.1
def jA (f z:Int) (l:List ab) (S:List cf) :List (List UInt8) :=if jn f z l then [] else (dN l f.toNat S z.toNat ([],0,false)).2.1
theorem rJ {f z:Int} {l:List ab} {S:List cf} (h:jn f z l) :jA f z l S= [] :=if_pos h
theorem IU {f z:Nat} {l:List ab} {S:List cf} (h: ¬jn f z l) :jA f z l S= (dN l f S z ([],0,false)).2.1:=if_neg h
theorem PN {a b:List (List UInt8)} (h:TB a) (h2:TB b) :TB (a++b) :=fun x hx=> (List.mem_append.1 hx).elim (h x) (h2 x)
theorem TB.nil:TB [] :=fun x hx=>absurd hx (List.not_mem_nil)
theorem jF (L:List cf) (i:Nat) (h:L.length=i+1) :List.map C.noR (List.drop (i*16) (cl dC L)) =cl bC (gt L i).1:=by
 have e:gt L i=L[i]'(by omega) :=by simp only[gt,List.getD];rw[List.getElem?_eq_getElem (by omega)];rfl
 rw[gy,List.drop_eq_getElem_cons (by omega),List.drop_of_length_le (by omega),←e,fI,ef,lM,List.append_nil];rfl
theorem jG (TS:List (List UInt8)) (i:Nat) (h:i< TS.length) : (TS.take i).map h16++[h16 (gt TS i)] = (TS.take (i+1)).map h16:=by rw[dO TS i h,List.map_append];rfl
theorem gO (TS:List (List UInt8)) (i k:Nat) (h:k< i) (hi:i≤TS.length) : (gt ((TS.take i).map h16) k).1= (h16 (gt TS k)).1:=by
 have e1:gt ((TS.take i).map h16) k= ((TS.take i).map h16)[k]'(by rw[List.length_map,List.length_take];omega) :=by simp only[gt,List.getD];rw[List.getElem?_eq_getElem (by rw[List.length_map,List.length_take];omega)];rfl
 have e2:gt TS k=TS[k]'(by omega) :=by simp only[gt,List.getD];rw[List.getElem?_eq_getElem (by omega)];rfl
 rw[e1,e2];simp
theorem bV {p:Prop} (e:p:=by intro KZ hZ;simp -implicitDefEqProofs (disch:=first|omega| (simp only[go_sem,lA,lD,lT,hTl] <;>omega) |decide) only[go_sem,↓reduceIte,Nat.reduceEqDiff,reduceCtorEq,Nat.reduceLT,Nat.reduceBEq,Nat.reduceAdd,i7,ep52,en52,ep53,en53,eq_self,decide_true,decide_false,not_true_eq_false,not_false_eq_true,List.replicate_zero,List.nil_append,b1,b2,b3,b4,b5,d1,d2,hy];with_reducible exact hZ) :p:=e
theorem dQ {p:Prop} (e:p:=by intro KZ hZ;simp -implicitDefEqProofs (disch:=first|omega| (simp only[go_sem,lA,lD,lT,hTl] <;>omega) |decide) only[go_sem,↓reduceIte,Nat.reduceEqDiff,reduceCtorEq,Nat.reduceLT,Nat.reduceBEq,Nat.reduceAdd,i7,ep52,en52,ep53,en53,eq_self,decide_true,decide_false,not_true_eq_false,not_false_eq_true,List.replicate_zero,List.nil_append,b1,b2,b3,b4,b5,d1,d2,hy];with_reducible refine And.intro ?_ hZ;first|exact rfl|decide) :p:=e
theorem gP {p:Prop} (e:p:=by simp -implicitDefEqProofs (disch:=first|omega| (simp only[go_sem,lA,lD,lT,hTl] <;>omega) |decide) only[go_sem,↓reduceIte,Nat.reduceEqDiff,reduceCtorEq];all_goals (rw[hRT,hR])) :p:=e
theorem Y8 {gl:Nat→C} {M:Nat} {pu:Nat→List C→Option C} {hp:Nat→List C→Hp→Option (C×Hp)} (hcx:CxOK (fj gl M pu hp)) (hnr: ∀ (g:Nat) (xs:List C),noRefs 0 xs=false→pu g xs=none) (hn52: ∀xs:List C,(∃b o,C.bp b o∈xs)→hp 52 xs [] =some (.top,[])) (hq52: ∀ (pre suf:Hp) (l:List ab) (f:Nat) (S:List cf) (n:Nat) (T:List (List UInt8)) (u:Nat) (sh:Bool),OkH pre→OkH suf→LZ l→f≤5000→S.length≤1000000→u≤S.length→T.length≤800000→n≤4096→hp 52 [.bp pre.length 0,sl eC .no l,.val (nI f),.val (nI n)] (pre++([some [sl sC (.own 1) (T),sl dC .no S,.val (nI (u)),.val (.bool (sh))]]++suf)) =some (.agg (cl bC (dN l f S n (T,u,sh)).1),pre++([some [sl sC (.own 1) ((dN l f S n (T,u,sh)).2.1),sl dC .no S,.val (nI ((dN l f S n (T,u,sh)).2.2.1)),.val (.bool ((dN l f S n (T,u,sh)).2.2.2))]]++suf))) (h64: ∀b:List UInt8,b.length< 35184372088832→pu 64 [sl bC .no b] =some (.agg (cl bC ((eR b).take 16)))) (a:List ab) (f z:Int) (l:List ab) (S:List cf) (ha:LZ a) (ha2:a.length≤4096) (hf: -9223372036854775808≤f∧f≤9223372036854775807) (hz: -9223372036854775808≤z∧z≤9223372036854775807) (hl:l.length≤1000000) (hl2: ∀i,i< l.length→(gt l i).1.length< 1000000∧(gt l i).2.length< 1000000) (hS:S.length≤1000000) :FC Tryd.prog gl 37 [sl eC .no a,.agg [.val (.int .i64 f),.val (.int .i64 z),sl eC .no l,sl dC .no S]] [] (.val (.bool (fM (iU a++jA f z l S)))) [] :=by
 replace hcx:=hcx.reN (M:=112)
 refine bZ (cx:=fj gl 112 pu hp) (rs:= [.tmp 4]) rfl Tryd.func37 rfl rfl rfl (by simp only[List.length_cons,List.length_nil];decide) (by simp only[go_sem]) ?_
 simp only[cO,go_sem]
 have b1:=True.intro
 have b2:=True.intro
 have b3:=True.intro
 have b4:=True.intro
 have b5:=True.intro
 have d1:=True.intro
 have d2:=True.intro
 have hy:=True.intro
 have hTl:=True.intro
 have en52: ∀x y:Nat,hp 52 [.bp 1 0,sl eC .no a,.val (nI x),.val (nI y)] [] =some (.top,[]) :=fun x y=>hn52 _ ⟨1,0,by simp⟩
 have ep52: ∀x y:Nat,pu 52 [.bp 1 0,sl eC .no a,.val (nI x),.val (nI y)] =none:=fun x y=>hnr 52 _ rfl
 have en53: ∀x y:Nat,hp 52 [.bp 2 0,sl eC .no l,.val (nI x),.val (nI y)] [] =some (.top,[]) :=fun x y=>hn52 _ ⟨2,0,by simp⟩
 have ep53: ∀x y:Nat,pu 52 [.bp 2 0,sl eC .no l,.val (nI x),.val (nI y)] =none:=fun x y=>hnr 52 _ rfl
 refine aa hcx [] _ [none] rfl rfl rfl ?_ bV
 refine aa hcx [1000012] _ [none] rfl rfl rfl ?_ bV
 refine Tr.bxc 1 0 (sl sC (.own 1) []) _ rfl rfl (bR rfl) rfl ?_
 refine Tr.bxc 1 1 (sl dC .no []) _ rfl rfl (bR rfl) rfl ?_
 have e52:=hq52 [some [.val (.int .i64 f),.val (.int .i64 z),sl eC .no l,sl dC .no S]] [] a 0 [] a.length [] 0 false (OkH.cons rfl OkH.nil) OkH.nil ha (by omega) (by simp) (by simp) (by simp) ha2
 have bT:=CX ha 0 [] a.length ha2 ([],0,false) TB.nil
 have bl:=y7 a 0 [] a.length ([],0,false)
 obtain ⟨XA,hXA⟩ : ∃X,dN a 0 [] a.length ([],0,false) =X:= ⟨_,rfl⟩
 rw[hXA] at e52 bT bl
 have hTA:iU a=XA.2.1:=by unfold iU;rw[hXA]
 have blA:XA.2.1.length≤8192:=by have:=bl.1;simp only[List.length_nil] at this;omega
 simp only[List.cons_append,List.nil_append,List.length_cons,List.length_nil,Nat.zero_add] at e52
 have hy:= @e52
 refine aa hcx [] _ [] rfl rfl rfl ?_ bV
 have hy:=True.intro
 refine aa hcx [1000021] _ [none] rfl rfl rfl ?_ bV
 refine Tr.k [3,5,6] ?_
 refine ae fun K1 hK1=> ?_
 by_cases b1: ((0:Nat) :Int)≤z
 ·
  skip
  by_cases b2:z≤((4096:Nat) :Int)
  ·
   skip
   by_cases b3: ((0:Nat) :Int)≤f
   ·
    skip
    by_cases b4:f≤z
    ·
     skip
     by_cases b5: ((l.length:Nat) :Int)≤z - f
     ·
      have hB: ¬jn f z l:=fun q=>by
       unfold jn at q;omega
      refine Tr.bxc 2 0 (sl sC (.own 1) []) _ rfl rfl (bR rfl) rfl ?_
      refine aa hcx [] [some 22,some 23,some 24,some 25,some 26,some 27,some 28,some 29,some 30,some 31,some 32,some 33,some 34,some 35,some 36,some 37,some 38,some 39,some 40,some 41,some 42,some 43,some 44,some 45,some 46,some 47,some 48,some 49,some 50,some 51,some 52] [] rfl rfl rfl ?_ bV
      refine Tr.k [3,5,6,52] ?_
      refine ct rfl ?_
      obtain ⟨z,rfl⟩ : ∃n:Nat,z= (n:Int) := ⟨z.toNat,by omega⟩
      obtain ⟨f,rfl⟩ : ∃n:Nat,f= (n:Int) := ⟨f.toNat,by omega⟩
      have lz:LZ l:= ⟨by omega,hl2⟩
      have hTB:=IU (S:=S) hB
      have f52:=hq52 [some [.val (nI f),.val (nI z),sl eC .no l,sl dC .no S],some [sl sC (.own 1) (XA.2.1),sl dC .no [],.val (nI (XA.2.2.1)),.val (.bool (XA.2.2.2))]] [] l f S z [] 0 false (OkH.cons rfl (OkH.cons rfl OkH.nil)) OkH.nil lz (by omega) hS (by omega) (by simp) (by omega)
      have bT2:=CX lz f S z (by omega) ([],0,false) TB.nil
      have bl2:=y7 l f S z ([],0,false)
      obtain ⟨XB,hXB⟩ : ∃X,dN l f S z ([],0,false) =X:= ⟨_,rfl⟩
      rw[hXB] at f52 bT2 bl2 hTB
      have blB:XB.2.1.length≤8192:=by have:=bl2.1;simp only[List.length_nil] at this;omega
      simp only[List.cons_append,List.nil_append,List.length_cons,List.length_nil,Nat.zero_add] at f52
      have hy:= @f52
      refine bG hcx [] _ [] rfl rfl rfl ?_ bV
      refine hK1 _ ?_
      skip
      have hy:=True.intro
      refine bH hcx dJ [61,66,1000071] _ [] rfl rfl rfl rfl ?_ dQ
      obtain ⟨TS,hTS⟩ : ∃TS,XA.2.1++XB.2.1=TS:= ⟨_,rfl⟩
      have hRT:iU a++jA f z l S=TS:=by rw[hTA,hTB];exact hTS
      have hTb:TB TS:=by rw[←hTS];exact PN bT bT2
      have hTl:TS.length≤16384:=by rw[←hTS];rw[List.length_append];omega
      simp only[hTS]
      refine Tr.k [7] ?_
      refine kN hcx [] ?_
      refine aa hcx [] _ [] rfl rfl rfl ?_ bV
      refine ae fun K2 hK2=> ?_
      refine aa hcx [] _ [] rfl rfl rfl ?_ bV
      refine Tr.k [7,8,9] ?_
      refine Tr.blk ?_
      refine eG hcx (α:=Nat) (fun a=> [(7,?v7_1),(8,sl dC (.own 16) ((TS.take a).map h16)),(9,.val (nI a))]) (fun a=> []) (fun a=>a≤TS.length∧qr TS a) (fun a=>TS.length - a) (0) ⟨Nat.zero_le _,oS TS⟩ ?le_1 ?hh_1 ?bd_1
      case hh_1=>exact rfl
      case le_1=>exact LT
      rintro i hi
      refine ae fun K3 hK3=> ?_
      refine aa hcx [] _ [] rfl rfl rfl ?_ bV
      refine bS rfl (fun hc75=> ?_) (fun hc75=> ?_)
      ·
       have hti: (gt TS i).length< 35184372088832:=hTb _ (kB TS i hc75)
       have e64:=h64 (gt TS i) hti
       have hsl: ((eR (gt TS i)).take 16).length=16:= (h16 (gt TS i)).2
       have hml: ((TS.take i).map h16).length=i:=by rw[List.length_map,List.length_take];omega
       refine Tr.skip ?_
       refine hK3 _ ?_
       refine ae fun K4 hK4=> ?_
       refine Tr.blk ?_
       have hy:=And.intro @e64 @hsl
       refine aa hcx [78,1000086] _ [] rfl rfl rfl ?_ bV
       obtain ⟨L,hL⟩ : ∃L,(TS.take i).map h16++[h16 (gt TS i)] =L:= ⟨_,rfl⟩
       have hLS:L= (TS.take (i+1)).map h16:=by rw[←hL];exact jG TS i hc75
       have hLl:L.length=i+1:=by rw[hLS,List.length_map,List.length_take];omega
       simp only[hL]
       have hy:=True.intro
       refine aa hcx [] _ [] rfl rfl rfl ?_ bV
       refine Tr.k [7,8,9,10] ?_
       refine Tr.blk ?_
       refine eG hcx (α:=Nat) (fun a=> [(7,?v7_2),(8,?v8_2),(9,?v9_2),(10,.val (nI a))]) (fun a=> []) (fun a=>a≤i∧n5 TS i a) (fun a=>i - a) (0) ⟨Nat.zero_le _,oT TS i⟩ ?le_2 ?hh_2 ?bd_2
       case hh_2=>exact rfl
       case le_2=>exact LT
       rintro j hj
       refine ae fun K5 hK5=> ?_
       refine aa hcx [] _ [] rfl rfl rfl ?_ bV
       refine bS rfl (fun hc89=> ?_) (fun hc89=> ?_)
       ·
        have hq1: (gt L i).1.length=16:= (gt L i).2
        have hq2: (gt L j).1.length=16:= (gt L j).2
        have hdr:=jF L i hLl
        have g1: (gt L i).1= (h16 (gt TS i)).1:=by rw[hLS];exact gO TS (i+1) i (by omega) (by omega)
        have g2: (gt L j).1= (h16 (gt TS j)).1:=by rw[hLS];exact gO TS (i+1) j (by omega) (by omega)
        refine Tr.skip ?_
        refine hK5 _ ?_
        refine Tr.k [7,8,9,10] ?_
        refine ae fun K6 hK6=> ?_
        refine Tr.blk ?_
        by_cases d1:gt TS i=gt TS j
        ·
         have hnh: ¬fq TS i j:=fun q=>q.1 d1
         have hy:=And.intro @fF @hdr
         refine bH hcx dJ [] [some 92,some 93,some 94,some 95,some 96,some 97,some 98,some 99,some 100,some 101,some 102,some 103,some 104,some 105,some 106,some 107,some 108,some 109,some 110,some 111] [] rfl rfl rfl rfl ?_ dQ
         refine bn rfl ?_
         refine Tr.skip ?_
         refine hK6 _ ?_
         refine Tr.k [7,8,9,10] ?_
         have hy:=True.intro
         refine bG hcx [1000091] _ [] rfl rfl rfl ?_ bV
         first
         | ((refine ⟨[],⟨by decide,by decide,by decide⟩,j+1,⟨⟨by omega,iX hj.2 hnh⟩,O1⟩,?_,by simp only[bh,aC,aq,bf,bg,Option.map_some,Option.map_none,aI,bd,aB,ao,aK,aH,aZ,a0,a7,a8,aL,ba,af,ag,ah,aj,am,an,aJ,aA,↓reduceIte,Nat.reduceEqDiff,reduceCtorEq,Nat.reduceAdd,Nat.zero_add,Nat.one_ne_zero,Nat.zero_ne_one,bc,bj,ar,au,bm,aw,ax] <;>rfl⟩);(simp only[bE,aP,↓bD,aE,aQ,aF,aR,aS,and_true,true_and,bh,aC,aq,bf,bg,Option.map_some,Option.map_none,aI,bd,aB,ao,aK,aH,aZ,a0,a7,a8,aL,ba,af,ag,ah,aj,am,an,aJ,aA,↓reduceIte,Nat.reduceEqDiff,reduceCtorEq,Nat.reduceAdd,Nat.zero_add,Nat.one_ne_zero,Nat.zero_ne_one,bc,bj,ar,au,bm,aw,ax];all_goals (repeat' first|exact CLe.refl _|exact True.intro| (with_reducible refine And.intro ?_ ?_)));(all_goals exact CLe.refl _);(done))
        skip
        by_cases d2: (gt L i).1= (gt L j).1
        ·
         have hh:fq TS i j:= ⟨d1,by rw[←g1,←g2];exact d2⟩
         have hy:=And.intro @fF @hdr
         refine bH hcx dJ [] [some 92,some 93,some 94,some 95,some 96,some 97,some 98,some 99,some 100,some 101,some 102,some 103,some 104,some 105,some 106,some 107,some 108,some 109,some 110,some 111] [] rfl rfl rfl rfl ?_ dQ
         refine ct rfl ?_
         have hR:fM TS=true:=lc hc75 hc89 hh
         have hy:=True.intro
         refine aa hcx [] _ [] rfl rfl rfl ?_ bV
         exact Tr.ret gP
        have hnh: ¬fq TS i j:=fun q=>d2 (by rw[g1,g2];exact q.2)
        have hy:=And.intro @fF @hdr
        refine bH hcx dJ [] [some 92,some 93,some 94,some 95,some 96,some 97,some 98,some 99,some 100,some 101,some 102,some 103,some 104,some 105,some 106,some 107,some 108,some 109,some 110,some 111] [] rfl rfl rfl rfl ?_ dQ
        refine bn rfl ?_
        refine Tr.skip ?_
        refine hK6 _ ?_
        refine Tr.k [7,8,9,10] ?_
        have hy:=True.intro
        refine bG hcx [1000091] _ [] rfl rfl rfl ?_ bV
        first
        | ((refine ⟨[],⟨by decide,by decide,by decide⟩,j+1,⟨⟨by omega,iX hj.2 hnh⟩,O1⟩,?_,by simp only[bh,aC,aq,bf,bg,Option.map_some,Option.map_none,aI,bd,aB,ao,aK,aH,aZ,a0,a7,a8,aL,ba,af,ag,ah,aj,am,an,aJ,aA,↓reduceIte,Nat.reduceEqDiff,reduceCtorEq,Nat.reduceAdd,Nat.zero_add,Nat.one_ne_zero,Nat.zero_ne_one,bc,bj,ar,au,bm,aw,ax] <;>rfl⟩);(simp only[bE,aP,↓bD,aE,aQ,aF,aR,aS,and_true,true_and,bh,aC,aq,bf,bg,Option.map_some,Option.map_none,aI,bd,aB,ao,aK,aH,aZ,a0,a7,a8,aL,ba,af,ag,ah,aj,am,an,aJ,aA,↓reduceIte,Nat.reduceEqDiff,reduceCtorEq,Nat.reduceAdd,Nat.zero_add,Nat.one_ne_zero,Nat.zero_ne_one,bc,bj,ar,au,bm,aw,ax];all_goals (repeat' first|exact CLe.refl _|exact True.intro| (with_reducible refine And.intro ?_ ?_)));(all_goals exact CLe.refl _);(done))
       refine Tr.exit ?_
       refine hK4 _ ?_
       refine bG hcx [1000077] _ [] rfl rfl rfl ?_ bV
       first
       | ((refine ⟨[],⟨by decide,by decide,by decide⟩,i+1,⟨⟨by omega,oU hi.2 hj.2 (by omega)⟩,O1⟩,?_,by simp only[bh,aC,aq,bf,bg,Option.map_some,Option.map_none,aI,bd,aB,ao,aK,aH,aZ,a0,a7,a8,aL,ba,af,ag,ah,aj,am,an,aJ,aA,↓reduceIte,Nat.reduceEqDiff,reduceCtorEq,Nat.reduceAdd,Nat.zero_add,Nat.one_ne_zero,Nat.zero_ne_one,bc,bj,ar,au,bm,aw,ax] <;>rfl⟩);(simp only[bE,aP,↓bD,aE,aQ,aF,aR,aS,and_true,true_and,bh,aC,aq,bf,bg,Option.map_some,Option.map_none,aI,bd,aB,ao,aK,aH,aZ,a0,a7,a8,aL,ba,af,ag,ah,aj,am,an,aJ,aA,↓reduceIte,Nat.reduceEqDiff,reduceCtorEq,Nat.reduceAdd,Nat.zero_add,Nat.one_ne_zero,Nat.zero_ne_one,bc,bj,ar,au,bm,aw,ax];all_goals (repeat' first|exact CLe.refl _|exact True.intro| (with_reducible refine And.intro ?_ ?_)));(all_goals (refine dL ?_;exact hLS));(done))
      refine Tr.exit ?_
      refine hK2 _ ?_
      have hR:fM TS=false:=mA (by rw[←show i=TS.length by omega];exact hi.2)
      refine aa hcx [] _ [] rfl rfl rfl ?_ bV
      exact Tr.ret gP
     have hB:jn f z l:=Or.inr (Or.inr (Or.inr (Or.inr (by omega))))
     refine Tr.bxc 2 0 (sl sC (.own 1) []) _ rfl rfl (bR rfl) rfl ?_
     refine aa hcx [] [some 22,some 23,some 24,some 25,some 26,some 27,some 28,some 29,some 30,some 31,some 32,some 33,some 34,some 35,some 36,some 37,some 38,some 39,some 40,some 41,some 42,some 43,some 44,some 45,some 46,some 47,some 48,some 49,some 50,some 51,some 52] [] rfl rfl rfl ?_ bV
     refine Tr.k [3,5,6,52] ?_
     refine bn rfl ?_
     refine Tr.skip ?_
     refine hK1 _ ?_
     have hTB:=rJ (S:=S) hB
     refine bH hcx dJ [61,66,1000071] _ [] rfl rfl rfl rfl ?_ dQ
     obtain ⟨TS,hTS⟩ : ∃TS,XA.2.1=TS:= ⟨_,rfl⟩
     have hRT:iU a++jA f z l S=TS:=by rw[hTA,hTB];rw[List.append_nil];exact hTS
     have hTb:TB TS:=by rw[←hTS];exact bT
     have hTl:TS.length≤16384:=by rw[←hTS];omega
     simp only[hTS]
     refine Tr.k [7] ?_
     refine kN hcx [] ?_
     refine aa hcx [] _ [] rfl rfl rfl ?_ bV
     refine ae fun K7 hK7=> ?_
     refine aa hcx [] _ [] rfl rfl rfl ?_ bV
     refine Tr.k [7,8,9] ?_
     refine Tr.blk ?_
     refine eG hcx (α:=Nat) (fun a=> [(7,?v7_3),(8,sl dC (.own 16) ((TS.take a).map h16)),(9,.val (nI a))]) (fun a=> []) (fun a=>a≤TS.length∧qr TS a) (fun a=>TS.length - a) (0) ⟨Nat.zero_le _,oS TS⟩ ?le_3 ?hh_3 ?bd_3
     case hh_3=>exact rfl
     case le_3=>exact LT
     rintro i hi
     refine ae fun K8 hK8=> ?_
     refine aa hcx [] _ [] rfl rfl rfl ?_ bV
     refine bS rfl (fun hc75=> ?_) (fun hc75=> ?_)
     ·
      have hti: (gt TS i).length< 35184372088832:=hTb _ (kB TS i hc75)
      have e64:=h64 (gt TS i) hti
      have hsl: ((eR (gt TS i)).take 16).length=16:= (h16 (gt TS i)).2
      have hml: ((TS.take i).map h16).length=i:=by rw[List.length_map,List.length_take];omega
      refine Tr.skip ?_
      refine hK8 _ ?_
      refine ae fun K9 hK9=> ?_
      refine Tr.blk ?_
      have hy:=And.intro @e64 @hsl
      refine aa hcx [78,1000086] _ [] rfl rfl rfl ?_ bV
      obtain ⟨L,hL⟩ : ∃L,(TS.take i).map h16++[h16 (gt TS i)] =L:= ⟨_,rfl⟩
      have hLS:L= (TS.take (i+1)).map h16:=by rw[←hL];exact jG TS i hc75
      have hLl:L.length=i+1:=by rw[hLS,List.length_map,List.length_take];omega
      simp only[hL]
      have hy:=True.intro
      refine aa hcx [] _ [] rfl rfl rfl ?_ bV
      refine Tr.k [7,8,9,10] ?_
      refine Tr.blk ?_
      refine eG hcx (α:=Nat) (fun a=> [(7,?v7_4),(8,?v8_4),(9,?v9_4),(10,.val (nI a))]) (fun a=> []) (fun a=>a≤i∧n5 TS i a) (fun a=>i - a) (0) ⟨Nat.zero_le _,oT TS i⟩ ?le_4 ?hh_4 ?bd_4
      case hh_4=>exact rfl
      case le_4=>exact LT
      rintro j hj
      refine ae fun K10 hK10=> ?_
      refine aa hcx [] _ [] rfl rfl rfl ?_ bV
      refine bS rfl (fun hc89=> ?_) (fun hc89=> ?_)
      ·
       have hq1: (gt L i).1.length=16:= (gt L i).2
       have hq2: (gt L j).1.length=16:= (gt L j).2
       have hdr:=jF L i hLl
       have g1: (gt L i).1= (h16 (gt TS i)).1:=by rw[hLS];exact gO TS (i+1) i (by omega) (by omega)
       have g2: (gt L j).1= (h16 (gt TS j)).1:=by rw[hLS];exact gO TS (i+1) j (by omega) (by omega)
       refine Tr.skip ?_
       refine hK10 _ ?_
       refine Tr.k [7,8,9,10] ?_
       refine ae fun K11 hK11=> ?_
       refine Tr.blk ?_
       by_cases d1:gt TS i=gt TS j
       ·
        have hnh: ¬fq TS i j:=fun q=>q.1 d1
        have hy:=And.intro @fF @hdr
        refine bH hcx dJ [] [some 92,some 93,some 94,some 95,some 96,some 97,some 98,some 99,some 100,some 101,some 102,some 103,some 104,some 105,some 106,some 107,some 108,some 109,some 110,some 111] [] rfl rfl rfl rfl ?_ dQ
        refine bn rfl ?_
        refine Tr.skip ?_
        refine hK11 _ ?_
        refine Tr.k [7,8,9,10] ?_
        have hy:=True.intro
        refine bG hcx [1000091] _ [] rfl rfl rfl ?_ bV
        first
        | ((refine ⟨[],⟨by decide,by decide,by decide⟩,j+1,⟨⟨by omega,iX hj.2 hnh⟩,O1⟩,?_,by simp only[bh,aC,aq,bf,bg,Option.map_some,Option.map_none,aI,bd,aB,ao,aK,aH,aZ,a0,a7,a8,aL,ba,af,ag,ah,aj,am,an,aJ,aA,↓reduceIte,Nat.reduceEqDiff,reduceCtorEq,Nat.reduceAdd,Nat.zero_add,Nat.one_ne_zero,Nat.zero_ne_one,bc,bj,ar,au,bm,aw,ax] <;>rfl⟩);(simp only[bE,aP,↓bD,aE,aQ,aF,aR,aS,and_true,true_and,bh,aC,aq,bf,bg,Option.map_some,Option.map_none,aI,bd,aB,ao,aK,aH,aZ,a0,a7,a8,aL,ba,af,ag,ah,aj,am,an,aJ,aA,↓reduceIte,Nat.reduceEqDiff,reduceCtorEq,Nat.reduceAdd,Nat.zero_add,Nat.one_ne_zero,Nat.zero_ne_one,bc,bj,ar,au,bm,aw,ax];all_goals (repeat' first|exact CLe.refl _|exact True.intro| (with_reducible refine And.intro ?_ ?_)));(all_goals exact CLe.refl _);(done))
       skip
       by_cases d2: (gt L i).1= (gt L j).1
       ·
        have hh:fq TS i j:= ⟨d1,by rw[←g1,←g2];exact d2⟩
        have hy:=And.intro @fF @hdr
        refine bH hcx dJ [] [some 92,some 93,some 94,some 95,some 96,some 97,some 98,some 99,some 100,some 101,some 102,some 103,some 104,some 105,some 106,some 107,some 108,some 109,some 110,some 111] [] rfl rfl rfl rfl ?_ dQ
        refine ct rfl ?_
        have hR:fM TS=true:=lc hc75 hc89 hh
        have hy:=True.intro
        refine aa hcx [] _ [] rfl rfl rfl ?_ bV
        exact Tr.ret gP
       have hnh: ¬fq TS i j:=fun q=>d2 (by rw[g1,g2];exact q.2)
       have hy:=And.intro @fF @hdr
       refine bH hcx dJ [] [some 92,some 93,some 94,some 95,some 96,some 97,some 98,some 99,some 100,some 101,some 102,some 103,some 104,some 105,some 106,some 107,some 108,some 109,some 110,some 111] [] rfl rfl rfl rfl ?_ dQ
       refine bn rfl ?_
       refine Tr.skip ?_
       refine hK11 _ ?_
       refine Tr.k [7,8,9,10] ?_
       have hy:=True.intro
       refine bG hcx [1000091] _ [] rfl rfl rfl ?_ bV
       first
       | ((refine ⟨[],⟨by decide,by decide,by decide⟩,j+1,⟨⟨by omega,iX hj.2 hnh⟩,O1⟩,?_,by simp only[bh,aC,aq,bf,bg,Option.map_some,Option.map_none,aI,bd,aB,ao,aK,aH,aZ,a0,a7,a8,aL,ba,af,ag,ah,aj,am,an,aJ,aA,↓reduceIte,Nat.reduceEqDiff,reduceCtorEq,Nat.reduceAdd,Nat.zero_add,Nat.one_ne_zero,Nat.zero_ne_one,bc,bj,ar,au,bm,aw,ax] <;>rfl⟩);(simp only[bE,aP,↓bD,aE,aQ,aF,aR,aS,and_true,true_and,bh,aC,aq,bf,bg,Option.map_some,Option.map_none,aI,bd,aB,ao,aK,aH,aZ,a0,a7,a8,aL,ba,af,ag,ah,aj,am,an,aJ,aA,↓reduceIte,Nat.reduceEqDiff,reduceCtorEq,Nat.reduceAdd,Nat.zero_add,Nat.one_ne_zero,Nat.zero_ne_one,bc,bj,ar,au,bm,aw,ax];all_goals (repeat' first|exact CLe.refl _|exact True.intro| (with_reducible refine And.intro ?_ ?_)));(all_goals exact CLe.refl _);(done))
      refine Tr.exit ?_
      refine hK9 _ ?_
      refine bG hcx [1000077] _ [] rfl rfl rfl ?_ bV
      first
      | ((refine ⟨[],⟨by decide,by decide,by decide⟩,i+1,⟨⟨by omega,oU hi.2 hj.2 (by omega)⟩,O1⟩,?_,by simp only[bh,aC,aq,bf,bg,Option.map_some,Option.map_none,aI,bd,aB,ao,aK,aH,aZ,a0,a7,a8,aL,ba,af,ag,ah,aj,am,an,aJ,aA,↓reduceIte,Nat.reduceEqDiff,reduceCtorEq,Nat.reduceAdd,Nat.zero_add,Nat.one_ne_zero,Nat.zero_ne_one,bc,bj,ar,au,bm,aw,ax] <;>rfl⟩);(simp only[bE,aP,↓bD,aE,aQ,aF,aR,aS,and_true,true_and,bh,aC,aq,bf,bg,Option.map_some,Option.map_none,aI,bd,aB,ao,aK,aH,aZ,a0,a7,a8,aL,ba,af,ag,ah,aj,am,an,aJ,aA,↓reduceIte,Nat.reduceEqDiff,reduceCtorEq,Nat.reduceAdd,Nat.zero_add,Nat.one_ne_zero,Nat.zero_ne_one,bc,bj,ar,au,bm,aw,ax];all_goals (repeat' first|exact CLe.refl _|exact True.intro| (with_reducible refine And.intro ?_ ?_)));(all_goals (refine dL ?_;exact hLS));(done))
     refine Tr.exit ?_
     refine hK7 _ ?_
     have hR:fM TS=false:=mA (by rw[←show i=TS.length by omega];exact hi.2)
     refine aa hcx [] _ [] rfl rfl rfl ?_ bV
     exact Tr.ret gP
    have hB:jn f z l:=Or.inr (Or.inr (Or.inr (Or.inl (by omega))))
    refine Tr.bxc 2 0 (sl sC (.own 1) []) _ rfl rfl (bR rfl) rfl ?_
    refine aa hcx [] [some 22,some 23,some 24,some 25,some 26,some 27,some 28,some 29,some 30,some 31,some 32,some 33,some 34,some 35,some 36,some 37,some 38,some 39,some 40,some 41,some 42,some 43,some 44,some 45,some 46,some 47,some 48,some 49,some 50,some 51,some 52] [] rfl rfl rfl ?_ bV
    refine Tr.k [3,5,6,52] ?_
    refine bn rfl ?_
    refine Tr.skip ?_
    refine hK1 _ ?_
    have hTB:=rJ (S:=S) hB
    refine bH hcx dJ [61,66,1000071] _ [] rfl rfl rfl rfl ?_ dQ
    obtain ⟨TS,hTS⟩ : ∃TS,XA.2.1=TS:= ⟨_,rfl⟩
    have hRT:iU a++jA f z l S=TS:=by rw[hTA,hTB];rw[List.append_nil];exact hTS
    have hTb:TB TS:=by rw[←hTS];exact bT
    have hTl:TS.length≤16384:=by rw[←hTS];omega
    simp only[hTS]
    refine Tr.k [7] ?_
    refine kN hcx [] ?_
    refine aa hcx [] _ [] rfl rfl rfl ?_ bV
    refine ae fun K12 hK12=> ?_
    refine aa hcx [] _ [] rfl rfl rfl ?_ bV
    refine Tr.k [7,8,9] ?_
    refine Tr.blk ?_
    refine eG hcx (α:=Nat) (fun a=> [(7,?v7_5),(8,sl dC (.own 16) ((TS.take a).map h16)),(9,.val (nI a))]) (fun a=> []) (fun a=>a≤TS.length∧qr TS a) (fun a=>TS.length - a) (0) ⟨Nat.zero_le _,oS TS⟩ ?le_5 ?hh_5 ?bd_5
    case hh_5=>exact rfl
    case le_5=>exact LT
    rintro i hi
    refine ae fun K13 hK13=> ?_
    refine aa hcx [] _ [] rfl rfl rfl ?_ bV
    refine bS rfl (fun hc75=> ?_) (fun hc75=> ?_)
    ·
     have hti: (gt TS i).length< 35184372088832:=hTb _ (kB TS i hc75)
     have e64:=h64 (gt TS i) hti
     have hsl: ((eR (gt TS i)).take 16).length=16:= (h16 (gt TS i)).2
     have hml: ((TS.take i).map h16).length=i:=by rw[List.length_map,List.length_take];omega
     refine Tr.skip ?_
     refine hK13 _ ?_
     refine ae fun K14 hK14=> ?_
     refine Tr.blk ?_
     have hy:=And.intro @e64 @hsl
     refine aa hcx [78,1000086] _ [] rfl rfl rfl ?_ bV
     obtain ⟨L,hL⟩ : ∃L,(TS.take i).map h16++[h16 (gt TS i)] =L:= ⟨_,rfl⟩
     have hLS:L= (TS.take (i+1)).map h16:=by rw[←hL];exact jG TS i hc75
     have hLl:L.length=i+1:=by rw[hLS,List.length_map,List.length_take];omega
     simp only[hL]
     have hy:=True.intro
     refine aa hcx [] _ [] rfl rfl rfl ?_ bV
     refine Tr.k [7,8,9,10] ?_
     refine Tr.blk ?_
     refine eG hcx (α:=Nat) (fun a=> [(7,?v7_6),(8,?v8_6),(9,?v9_6),(10,.val (nI a))]) (fun a=> []) (fun a=>a≤i∧n5 TS i a) (fun a=>i - a) (0) ⟨Nat.zero_le _,oT TS i⟩ ?le_6 ?hh_6 ?bd_6
     case hh_6=>exact rfl
     case le_6=>exact LT
     rintro j hj
     refine ae fun K15 hK15=> ?_
     refine aa hcx [] _ [] rfl rfl rfl ?_ bV
     refine bS rfl (fun hc89=> ?_) (fun hc89=> ?_)
     ·
      have hq1: (gt L i).1.length=16:= (gt L i).2
      have hq2: (gt L j).1.length=16:= (gt L j).2
      have hdr:=jF L i hLl
      have g1: (gt L i).1= (h16 (gt TS i)).1:=by rw[hLS];exact gO TS (i+1) i (by omega) (by omega)
      have g2: (gt L j).1= (h16 (gt TS j)).1:=by rw[hLS];exact gO TS (i+1) j (by omega) (by omega)
      refine Tr.skip ?_
      refine hK15 _ ?_
      refine Tr.k [7,8,9,10] ?_
      refine ae fun K16 hK16=> ?_
      refine Tr.blk ?_
      by_cases d1:gt TS i=gt TS j
      ·
       have hnh: ¬fq TS i j:=fun q=>q.1 d1
       have hy:=And.intro @fF @hdr
       refine bH hcx dJ [] [some 92,some 93,some 94,some 95,some 96,some 97,some 98,some 99,some 100,some 101,some 102,some 103,some 104,some 105,some 106,some 107,some 108,some 109,some 110,some 111] [] rfl rfl rfl rfl ?_ dQ
       refine bn rfl ?_
       refine Tr.skip ?_
       refine hK16 _ ?_
       refine Tr.k [7,8,9,10] ?_
       have hy:=True.intro
       refine bG hcx [1000091] _ [] rfl rfl rfl ?_ bV
       first
       | ((refine ⟨[],⟨by decide,by decide,by decide⟩,j+1,⟨⟨by omega,iX hj.2 hnh⟩,O1⟩,?_,by simp only[bh,aC,aq,bf,bg,Option.map_some,Option.map_none,aI,bd,aB,ao,aK,aH,aZ,a0,a7,a8,aL,ba,af,ag,ah,aj,am,an,aJ,aA,↓reduceIte,Nat.reduceEqDiff,reduceCtorEq,Nat.reduceAdd,Nat.zero_add,Nat.one_ne_zero,Nat.zero_ne_one,bc,bj,ar,au,bm,aw,ax] <;>rfl⟩);(simp only[bE,aP,↓bD,aE,aQ,aF,aR,aS,and_true,true_and,bh,aC,aq,bf,bg,Option.map_some,Option.map_none,aI,bd,aB,ao,aK,aH,aZ,a0,a7,a8,aL,ba,af,ag,ah,aj,am,an,aJ,aA,↓reduceIte,Nat.reduceEqDiff,reduceCtorEq,Nat.reduceAdd,Nat.zero_add,Nat.one_ne_zero,Nat.zero_ne_one,bc,bj,ar,au,bm,aw,ax];all_goals (repeat' first|exact CLe.refl _|exact True.intro| (with_reducible refine And.intro ?_ ?_)));(all_goals exact CLe.refl _);(done))
      skip
      by_cases d2: (gt L i).1= (gt L j).1
      ·
       have hh:fq TS i j:= ⟨d1,by rw[←g1,←g2];exact d2⟩
       have hy:=And.intro @fF @hdr
       refine bH hcx dJ [] [some 92,some 93,some 94,some 95,some 96,some 97,some 98,some 99,some 100,some 101,some 102,some 103,some 104,some 105,some 106,some 107,some 108,some 109,some 110,some 111] [] rfl rfl rfl rfl ?_ dQ
       refine ct rfl ?_
       have hR:fM TS=true:=lc hc75 hc89 hh
       have hy:=True.intro
       refine aa hcx [] _ [] rfl rfl rfl ?_ bV
       exact Tr.ret gP
      have hnh: ¬fq TS i j:=fun q=>d2 (by rw[g1,g2];exact q.2)
      have hy:=And.intro @fF @hdr
      refine bH hcx dJ [] [some 92,some 93,some 94,some 95,some 96,some 97,some 98,some 99,some 100,some 101,some 102,some 103,some 104,some 105,some 106,some 107,some 108,some 109,some 110,some 111] [] rfl rfl rfl rfl ?_ dQ
      refine bn rfl ?_
      refine Tr.skip ?_
      refine hK16 _ ?_
      refine Tr.k [7,8,9,10] ?_
      have hy:=True.intro
      refine bG hcx [1000091] _ [] rfl rfl rfl ?_ bV
      first
      | ((refine ⟨[],⟨by decide,by decide,by decide⟩,j+1,⟨⟨by omega,iX hj.2 hnh⟩,O1⟩,?_,by simp only[bh,aC,aq,bf,bg,Option.map_some,Option.map_none,aI,bd,aB,ao,aK,aH,aZ,a0,a7,a8,aL,ba,af,ag,ah,aj,am,an,aJ,aA,↓reduceIte,Nat.reduceEqDiff,reduceCtorEq,Nat.reduceAdd,Nat.zero_add,Nat.one_ne_zero,Nat.zero_ne_one,bc,bj,ar,au,bm,aw,ax] <;>rfl⟩);(simp only[bE,aP,↓bD,aE,aQ,aF,aR,aS,and_true,true_and,bh,aC,aq,bf,bg,Option.map_some,Option.map_none,aI,bd,aB,ao,aK,aH,aZ,a0,a7,a8,aL,ba,af,ag,ah,aj,am,an,aJ,aA,↓reduceIte,Nat.reduceEqDiff,reduceCtorEq,Nat.reduceAdd,Nat.zero_add,Nat.one_ne_zero,Nat.zero_ne_one,bc,bj,ar,au,bm,aw,ax];all_goals (repeat' first|exact CLe.refl _|exact True.intro| (with_reducible refine And.intro ?_ ?_)));(all_goals exact CLe.refl _);(done))
     refine Tr.exit ?_
     refine hK14 _ ?_
     refine bG hcx [1000077] _ [] rfl rfl rfl ?_ bV
     first
     | ((refine ⟨[],⟨by decide,by decide,by decide⟩,i+1,⟨⟨by omega,oU hi.2 hj.2 (by omega)⟩,O1⟩,?_,by simp only[bh,aC,aq,bf,bg,Option.map_some,Option.map_none,aI,bd,aB,ao,aK,aH,aZ,a0,a7,a8,aL,ba,af,ag,ah,aj,am,an,aJ,aA,↓reduceIte,Nat.reduceEqDiff,reduceCtorEq,Nat.reduceAdd,Nat.zero_add,Nat.one_ne_zero,Nat.zero_ne_one,bc,bj,ar,au,bm,aw,ax] <;>rfl⟩);(simp only[bE,aP,↓bD,aE,aQ,aF,aR,aS,and_true,true_and,bh,aC,aq,bf,bg,Option.map_some,Option.map_none,aI,bd,aB,ao,aK,aH,aZ,a0,a7,a8,aL,ba,af,ag,ah,aj,am,an,aJ,aA,↓reduceIte,Nat.reduceEqDiff,reduceCtorEq,Nat.reduceAdd,Nat.zero_add,Nat.one_ne_zero,Nat.zero_ne_one,bc,bj,ar,au,bm,aw,ax];all_goals (repeat' first|exact CLe.refl _|exact True.intro| (with_reducible refine And.intro ?_ ?_)));(all_goals (refine dL ?_;exact hLS));(done))
    refine Tr.exit ?_
    refine hK12 _ ?_
    have hR:fM TS=false:=mA (by rw[←show i=TS.length by omega];exact hi.2)
    refine aa hcx [] _ [] rfl rfl rfl ?_ bV
    exact Tr.ret gP
   have hB:jn f z l:=Or.inr (Or.inr (Or.inl (by omega)))
   refine Tr.bxc 2 0 (sl sC (.own 1) []) _ rfl rfl (bR rfl) rfl ?_
   refine aa hcx [] [some 22,some 23,some 24,some 25,some 26,some 27,some 28,some 29,some 30,some 31,some 32,some 33,some 34,some 35,some 36,some 37,some 38,some 39,some 40,some 41,some 42,some 43,some 44,some 45,some 46,some 47,some 48,some 49,some 50,some 51,some 52] [] rfl rfl rfl ?_ bV
   refine Tr.k [3,5,6,52] ?_
   refine bn rfl ?_
   refine Tr.skip ?_
   refine hK1 _ ?_
   have hTB:=rJ (S:=S) hB
   refine bH hcx dJ [61,66,1000071] _ [] rfl rfl rfl rfl ?_ dQ
   obtain ⟨TS,hTS⟩ : ∃TS,XA.2.1=TS:= ⟨_,rfl⟩
   have hRT:iU a++jA f z l S=TS:=by rw[hTA,hTB];rw[List.append_nil];exact hTS
   have hTb:TB TS:=by rw[←hTS];exact bT
   have hTl:TS.length≤16384:=by rw[←hTS];omega
   simp only[hTS]
   refine Tr.k [7] ?_
   refine kN hcx [] ?_
   refine aa hcx [] _ [] rfl rfl rfl ?_ bV
   refine ae fun K17 hK17=> ?_
   refine aa hcx [] _ [] rfl rfl rfl ?_ bV
   refine Tr.k [7,8,9] ?_
   refine Tr.blk ?_
   refine eG hcx (α:=Nat) (fun a=> [(7,?v7_7),(8,sl dC (.own 16) ((TS.take a).map h16)),(9,.val (nI a))]) (fun a=> []) (fun a=>a≤TS.length∧qr TS a) (fun a=>TS.length - a) (0) ⟨Nat.zero_le _,oS TS⟩ ?le_7 ?hh_7 ?bd_7
   case hh_7=>exact rfl
   case le_7=>exact LT
   rintro i hi
   refine ae fun K18 hK18=> ?_
   refine aa hcx [] _ [] rfl rfl rfl ?_ bV
   refine bS rfl (fun hc75=> ?_) (fun hc75=> ?_)
   ·
    have hti: (gt TS i).length< 35184372088832:=hTb _ (kB TS i hc75)
    have e64:=h64 (gt TS i) hti
    have hsl: ((eR (gt TS i)).take 16).length=16:= (h16 (gt TS i)).2
    have hml: ((TS.take i).map h16).length=i:=by rw[List.length_map,List.length_take];omega
    refine Tr.skip ?_
    refine hK18 _ ?_
    refine ae fun K19 hK19=> ?_
    refine Tr.blk ?_
    have hy:=And.intro @e64 @hsl
    refine aa hcx [78,1000086] _ [] rfl rfl rfl ?_ bV
    obtain ⟨L,hL⟩ : ∃L,(TS.take i).map h16++[h16 (gt TS i)] =L:= ⟨_,rfl⟩
    have hLS:L= (TS.take (i+1)).map h16:=by rw[←hL];exact jG TS i hc75
    have hLl:L.length=i+1:=by rw[hLS,List.length_map,List.length_take];omega
    simp only[hL]
    have hy:=True.intro
    refine aa hcx [] _ [] rfl rfl rfl ?_ bV
    refine Tr.k [7,8,9,10] ?_
    refine Tr.blk ?_
    refine eG hcx (α:=Nat) (fun a=> [(7,?v7_8),(8,?v8_8),(9,?v9_8),(10,.val (nI a))]) (fun a=> []) (fun a=>a≤i∧n5 TS i a) (fun a=>i - a) (0) ⟨Nat.zero_le _,oT TS i⟩ ?le_8 ?hh_8 ?bd_8
    case hh_8=>exact rfl
    case le_8=>exact LT
    rintro j hj
    refine ae fun K20 hK20=> ?_
    refine aa hcx [] _ [] rfl rfl rfl ?_ bV
    refine bS rfl (fun hc89=> ?_) (fun hc89=> ?_)
    ·
     have hq1: (gt L i).1.length=16:= (gt L i).2
     have hq2: (gt L j).1.length=16:= (gt L j).2
     have hdr:=jF L i hLl
     have g1: (gt L i).1= (h16 (gt TS i)).1:=by rw[hLS];exact gO TS (i+1) i (by omega) (by omega)
     have g2: (gt L j).1= (h16 (gt TS j)).1:=by rw[hLS];exact gO TS (i+1) j (by omega) (by omega)
     refine Tr.skip ?_
     refine hK20 _ ?_
     refine Tr.k [7,8,9,10] ?_
     refine ae fun K21 hK21=> ?_
     refine Tr.blk ?_
     by_cases d1:gt TS i=gt TS j
     ·
      have hnh: ¬fq TS i j:=fun q=>q.1 d1
      have hy:=And.intro @fF @hdr
      refine bH hcx dJ [] [some 92,some 93,some 94,some 95,some 96,some 97,some 98,some 99,some 100,some 101,some 102,some 103,some 104,some 105,some 106,some 107,some 108,some 109,some 110,some 111] [] rfl rfl rfl rfl ?_ dQ
      refine bn rfl ?_
      refine Tr.skip ?_
      refine hK21 _ ?_
      refine Tr.k [7,8,9,10] ?_
      have hy:=True.intro
      refine bG hcx [1000091] _ [] rfl rfl rfl ?_ bV
      first
      | ((refine ⟨[],⟨by decide,by decide,by decide⟩,j+1,⟨⟨by omega,iX hj.2 hnh⟩,O1⟩,?_,by simp only[bh,aC,aq,bf,bg,Option.map_some,Option.map_none,aI,bd,aB,ao,aK,aH,aZ,a0,a7,a8,aL,ba,af,ag,ah,aj,am,an,aJ,aA,↓reduceIte,Nat.reduceEqDiff,reduceCtorEq,Nat.reduceAdd,Nat.zero_add,Nat.one_ne_zero,Nat.zero_ne_one,bc,bj,ar,au,bm,aw,ax] <;>rfl⟩);(simp only[bE,aP,↓bD,aE,aQ,aF,aR,aS,and_true,true_and,bh,aC,aq,bf,bg,Option.map_some,Option.map_none,aI,bd,aB,ao,aK,aH,aZ,a0,a7,a8,aL,ba,af,ag,ah,aj,am,an,aJ,aA,↓reduceIte,Nat.reduceEqDiff,reduceCtorEq,Nat.reduceAdd,Nat.zero_add,Nat.one_ne_zero,Nat.zero_ne_one,bc,bj,ar,au,bm,aw,ax];all_goals (repeat' first|exact CLe.refl _|exact True.intro| (with_reducible refine And.intro ?_ ?_)));(all_goals exact CLe.refl _);(done))
     skip
     by_cases d2: (gt L i).1= (gt L j).1
     ·
      have hh:fq TS i j:= ⟨d1,by rw[←g1,←g2];exact d2⟩
      have hy:=And.intro @fF @hdr
      refine bH hcx dJ [] [some 92,some 93,some 94,some 95,some 96,some 97,some 98,some 99,some 100,some 101,some 102,some 103,some 104,some 105,some 106,some 107,some 108,some 109,some 110,some 111] [] rfl rfl rfl rfl ?_ dQ
      refine ct rfl ?_
      have hR:fM TS=true:=lc hc75 hc89 hh
      have hy:=True.intro
      refine aa hcx [] _ [] rfl rfl rfl ?_ bV
      exact Tr.ret gP
     have hnh: ¬fq TS i j:=fun q=>d2 (by rw[g1,g2];exact q.2)
     have hy:=And.intro @fF @hdr
     refine bH hcx dJ [] [some 92,some 93,some 94,some 95,some 96,some 97,some 98,some 99,some 100,some 101,some 102,some 103,some 104,some 105,some 106,some 107,some 108,some 109,some 110,some 111] [] rfl rfl rfl rfl ?_ dQ
     refine bn rfl ?_
     refine Tr.skip ?_
     refine hK21 _ ?_
     refine Tr.k [7,8,9,10] ?_
     have hy:=True.intro
     refine bG hcx [1000091] _ [] rfl rfl rfl ?_ bV
     first
     | ((refine ⟨[],⟨by decide,by decide,by decide⟩,j+1,⟨⟨by omega,iX hj.2 hnh⟩,O1⟩,?_,by simp only[bh,aC,aq,bf,bg,Option.map_some,Option.map_none,aI,bd,aB,ao,aK,aH,aZ,a0,a7,a8,aL,ba,af,ag,ah,aj,am,an,aJ,aA,↓reduceIte,Nat.reduceEqDiff,reduceCtorEq,Nat.reduceAdd,Nat.zero_add,Nat.one_ne_zero,Nat.zero_ne_one,bc,bj,ar,au,bm,aw,ax] <;>rfl⟩);(simp only[bE,aP,↓bD,aE,aQ,aF,aR,aS,and_true,true_and,bh,aC,aq,bf,bg,Option.map_some,Option.map_none,aI,bd,aB,ao,aK,aH,aZ,a0,a7,a8,aL,ba,af,ag,ah,aj,am,an,aJ,aA,↓reduceIte,Nat.reduceEqDiff,reduceCtorEq,Nat.reduceAdd,Nat.zero_add,Nat.one_ne_zero,Nat.zero_ne_one,bc,bj,ar,au,bm,aw,ax];all_goals (repeat' first|exact CLe.refl _|exact True.intro| (with_reducible refine And.intro ?_ ?_)));(all_goals exact CLe.refl _);(done))
    refine Tr.exit ?_
    refine hK19 _ ?_
    refine bG hcx [1000077] _ [] rfl rfl rfl ?_ bV
    first
    | ((refine ⟨[],⟨by decide,by decide,by decide⟩,i+1,⟨⟨by omega,oU hi.2 hj.2 (by omega)⟩,O1⟩,?_,by simp only[bh,aC,aq,bf,bg,Option.map_some,Option.map_none,aI,bd,aB,ao,aK,aH,aZ,a0,a7,a8,aL,ba,af,ag,ah,aj,am,an,aJ,aA,↓reduceIte,Nat.reduceEqDiff,reduceCtorEq,Nat.reduceAdd,Nat.zero_add,Nat.one_ne_zero,Nat.zero_ne_one,bc,bj,ar,au,bm,aw,ax] <;>rfl⟩);(simp only[bE,aP,↓bD,aE,aQ,aF,aR,aS,and_true,true_and,bh,aC,aq,bf,bg,Option.map_some,Option.map_none,aI,bd,aB,ao,aK,aH,aZ,a0,a7,a8,aL,ba,af,ag,ah,aj,am,an,aJ,aA,↓reduceIte,Nat.reduceEqDiff,reduceCtorEq,Nat.reduceAdd,Nat.zero_add,Nat.one_ne_zero,Nat.zero_ne_one,bc,bj,ar,au,bm,aw,ax];all_goals (repeat' first|exact CLe.refl _|exact True.intro| (with_reducible refine And.intro ?_ ?_)));(all_goals (refine dL ?_;exact hLS));(done))
   refine Tr.exit ?_
   refine hK17 _ ?_
   have hR:fM TS=false:=mA (by rw[←show i=TS.length by omega];exact hi.2)
   refine aa hcx [] _ [] rfl rfl rfl ?_ bV
   exact Tr.ret gP
  have hB:jn f z l:=Or.inr (Or.inl (by omega))
  refine Tr.bxc 2 0 (sl sC (.own 1) []) _ rfl rfl (bR rfl) rfl ?_
  refine aa hcx [] [some 22,some 23,some 24,some 25,some 26,some 27,some 28,some 29,some 30,some 31,some 32,some 33,some 34,some 35,some 36,some 37,some 38,some 39,some 40,some 41,some 42,some 43,some 44,some 45,some 46,some 47,some 48,some 49,some 50,some 51,some 52] [] rfl rfl rfl ?_ bV
  refine Tr.k [3,5,6,52] ?_
  refine bn rfl ?_
  refine Tr.skip ?_
  refine hK1 _ ?_
  have hTB:=rJ (S:=S) hB
  refine bH hcx dJ [61,66,1000071] _ [] rfl rfl rfl rfl ?_ dQ
  obtain ⟨TS,hTS⟩ : ∃TS,XA.2.1=TS:= ⟨_,rfl⟩
  have hRT:iU a++jA f z l S=TS:=by rw[hTA,hTB];rw[List.append_nil];exact hTS
  have hTb:TB TS:=by rw[←hTS];exact bT
  have hTl:TS.length≤16384:=by rw[←hTS];omega
  simp only[hTS]
  refine Tr.k [7] ?_
  refine kN hcx [] ?_
  refine aa hcx [] _ [] rfl rfl rfl ?_ bV
  refine ae fun K22 hK22=> ?_
  refine aa hcx [] _ [] rfl rfl rfl ?_ bV
  refine Tr.k [7,8,9] ?_
  refine Tr.blk ?_
  refine eG hcx (α:=Nat) (fun a=> [(7,?v7_9),(8,sl dC (.own 16) ((TS.take a).map h16)),(9,.val (nI a))]) (fun a=> []) (fun a=>a≤TS.length∧qr TS a) (fun a=>TS.length - a) (0) ⟨Nat.zero_le _,oS TS⟩ ?le_9 ?hh_9 ?bd_9
  case hh_9=>exact rfl
  case le_9=>exact LT
  rintro i hi
  refine ae fun K23 hK23=> ?_
  refine aa hcx [] _ [] rfl rfl rfl ?_ bV
  refine bS rfl (fun hc75=> ?_) (fun hc75=> ?_)
  ·
   have hti: (gt TS i).length< 35184372088832:=hTb _ (kB TS i hc75)
   have e64:=h64 (gt TS i) hti
   have hsl: ((eR (gt TS i)).take 16).length=16:= (h16 (gt TS i)).2
   have hml: ((TS.take i).map h16).length=i:=by rw[List.length_map,List.length_take];omega
   refine Tr.skip ?_
   refine hK23 _ ?_
   refine ae fun K24 hK24=> ?_
   refine Tr.blk ?_
   have hy:=And.intro @e64 @hsl
   refine aa hcx [78,1000086] _ [] rfl rfl rfl ?_ bV
   obtain ⟨L,hL⟩ : ∃L,(TS.take i).map h16++[h16 (gt TS i)] =L:= ⟨_,rfl⟩
   have hLS:L= (TS.take (i+1)).map h16:=by rw[←hL];exact jG TS i hc75
   have hLl:L.length=i+1:=by rw[hLS,List.length_map,List.length_take];omega
   simp only[hL]
   have hy:=True.intro
   refine aa hcx [] _ [] rfl rfl rfl ?_ bV
   refine Tr.k [7,8,9,10] ?_
   refine Tr.blk ?_
   refine eG hcx (α:=Nat) (fun a=> [(7,?v7_10),(8,?v8_10),(9,?v9_10),(10,.val (nI a))]) (fun a=> []) (fun a=>a≤i∧n5 TS i a) (fun a=>i - a) (0) ⟨Nat.zero_le _,oT TS i⟩ ?le_10 ?hh_10 ?bd_10
   case hh_10=>exact rfl
   case le_10=>exact LT
   rintro j hj
   refine ae fun K25 hK25=> ?_
   refine aa hcx [] _ [] rfl rfl rfl ?_ bV
   refine bS rfl (fun hc89=> ?_) (fun hc89=> ?_)
   ·
    have hq1: (gt L i).1.length=16:= (gt L i).2
    have hq2: (gt L j).1.length=16:= (gt L j).2
    have hdr:=jF L i hLl
    have g1: (gt L i).1= (h16 (gt TS i)).1:=by rw[hLS];exact gO TS (i+1) i (by omega) (by omega)
    have g2: (gt L j).1= (h16 (gt TS j)).1:=by rw[hLS];exact gO TS (i+1) j (by omega) (by omega)
    refine Tr.skip ?_
    refine hK25 _ ?_
    refine Tr.k [7,8,9,10] ?_
    refine ae fun K26 hK26=> ?_
    refine Tr.blk ?_
    by_cases d1:gt TS i=gt TS j
    ·
     have hnh: ¬fq TS i j:=fun q=>q.1 d1
     have hy:=And.intro @fF @hdr
     refine bH hcx dJ [] [some 92,some 93,some 94,some 95,some 96,some 97,some 98,some 99,some 100,some 101,some 102,some 103,some 104,some 105,some 106,some 107,some 108,some 109,some 110,some 111] [] rfl rfl rfl rfl ?_ dQ
     refine bn rfl ?_
     refine Tr.skip ?_
     refine hK26 _ ?_
     refine Tr.k [7,8,9,10] ?_
     have hy:=True.intro
     refine bG hcx [1000091] _ [] rfl rfl rfl ?_ bV
     first
     | ((refine ⟨[],⟨by decide,by decide,by decide⟩,j+1,⟨⟨by omega,iX hj.2 hnh⟩,O1⟩,?_,by simp only[bh,aC,aq,bf,bg,Option.map_some,Option.map_none,aI,bd,aB,ao,aK,aH,aZ,a0,a7,a8,aL,ba,af,ag,ah,aj,am,an,aJ,aA,↓reduceIte,Nat.reduceEqDiff,reduceCtorEq,Nat.reduceAdd,Nat.zero_add,Nat.one_ne_zero,Nat.zero_ne_one,bc,bj,ar,au,bm,aw,ax] <;>rfl⟩);(simp only[bE,aP,↓bD,aE,aQ,aF,aR,aS,and_true,true_and,bh,aC,aq,bf,bg,Option.map_some,Option.map_none,aI,bd,aB,ao,aK,aH,aZ,a0,a7,a8,aL,ba,af,ag,ah,aj,am,an,aJ,aA,↓reduceIte,Nat.reduceEqDiff,reduceCtorEq,Nat.reduceAdd,Nat.zero_add,Nat.one_ne_zero,Nat.zero_ne_one,bc,bj,ar,au,bm,aw,ax];all_goals (repeat' first|exact CLe.refl _|exact True.intro| (with_reducible refine And.intro ?_ ?_)));(all_goals exact CLe.refl _);(done))
    skip
    by_cases d2: (gt L i).1= (gt L j).1
    ·
     have hh:fq TS i j:= ⟨d1,by rw[←g1,←g2];exact d2⟩
     have hy:=And.intro @fF @hdr
     refine bH hcx dJ [] [some 92,some 93,some 94,some 95,some 96,some 97,some 98,some 99,some 100,some 101,some 102,some 103,some 104,some 105,some 106,some 107,some 108,some 109,some 110,some 111] [] rfl rfl rfl rfl ?_ dQ
     refine ct rfl ?_
     have hR:fM TS=true:=lc hc75 hc89 hh
     have hy:=True.intro
     refine aa hcx [] _ [] rfl rfl rfl ?_ bV
     exact Tr.ret gP
    have hnh: ¬fq TS i j:=fun q=>d2 (by rw[g1,g2];exact q.2)
    have hy:=And.intro @fF @hdr
    refine bH hcx dJ [] [some 92,some 93,some 94,some 95,some 96,some 97,some 98,some 99,some 100,some 101,some 102,some 103,some 104,some 105,some 106,some 107,some 108,some 109,some 110,some 111] [] rfl rfl rfl rfl ?_ dQ
    refine bn rfl ?_
    refine Tr.skip ?_
    refine hK26 _ ?_
    refine Tr.k [7,8,9,10] ?_
    have hy:=True.intro
    refine bG hcx [1000091] _ [] rfl rfl rfl ?_ bV
    first
    | ((refine ⟨[],⟨by decide,by decide,by decide⟩,j+1,⟨⟨by omega,iX hj.2 hnh⟩,O1⟩,?_,by simp only[bh,aC,aq,bf,bg,Option.map_some,Option.map_none,aI,bd,aB,ao,aK,aH,aZ,a0,a7,a8,aL,ba,af,ag,ah,aj,am,an,aJ,aA,↓reduceIte,Nat.reduceEqDiff,reduceCtorEq,Nat.reduceAdd,Nat.zero_add,Nat.one_ne_zero,Nat.zero_ne_one,bc,bj,ar,au,bm,aw,ax] <;>rfl⟩);(simp only[bE,aP,↓bD,aE,aQ,aF,aR,aS,and_true,true_and,bh,aC,aq,bf,bg,Option.map_some,Option.map_none,aI,bd,aB,ao,aK,aH,aZ,a0,a7,a8,aL,ba,af,ag,ah,aj,am,an,aJ,aA,↓reduceIte,Nat.reduceEqDiff,reduceCtorEq,Nat.reduceAdd,Nat.zero_add,Nat.one_ne_zero,Nat.zero_ne_one,bc,bj,ar,au,bm,aw,ax];all_goals (repeat' first|exact CLe.refl _|exact True.intro| (with_reducible refine And.intro ?_ ?_)));(all_goals exact CLe.refl _);(done))
   refine Tr.exit ?_
   refine hK24 _ ?_
   refine bG hcx [1000077] _ [] rfl rfl rfl ?_ bV
   first
   | ((refine ⟨[],⟨by decide,by decide,by decide⟩,i+1,⟨⟨by omega,oU hi.2 hj.2 (by omega)⟩,O1⟩,?_,by simp only[bh,aC,aq,bf,bg,Option.map_some,Option.map_none,aI,bd,aB,ao,aK,aH,aZ,a0,a7,a8,aL,ba,af,ag,ah,aj,am,an,aJ,aA,↓reduceIte,Nat.reduceEqDiff,reduceCtorEq,Nat.reduceAdd,Nat.zero_add,Nat.one_ne_zero,Nat.zero_ne_one,bc,bj,ar,au,bm,aw,ax] <;>rfl⟩);(simp only[bE,aP,↓bD,aE,aQ,aF,aR,aS,and_true,true_and,bh,aC,aq,bf,bg,Option.map_some,Option.map_none,aI,bd,aB,ao,aK,aH,aZ,a0,a7,a8,aL,ba,af,ag,ah,aj,am,an,aJ,aA,↓reduceIte,Nat.reduceEqDiff,reduceCtorEq,Nat.reduceAdd,Nat.zero_add,Nat.one_ne_zero,Nat.zero_ne_one,bc,bj,ar,au,bm,aw,ax];all_goals (repeat' first|exact CLe.refl _|exact True.intro| (with_reducible refine And.intro ?_ ?_)));(all_goals (refine dL ?_;exact hLS));(done))
  refine Tr.exit ?_
  refine hK22 _ ?_
  have hR:fM TS=false:=mA (by rw[←show i=TS.length by omega];exact hi.2)
  refine aa hcx [] _ [] rfl rfl rfl ?_ bV
  exact Tr.ret gP
 have hB:jn f z l:=Or.inl (by omega)
 refine Tr.bxc 2 0 (sl sC (.own 1) []) _ rfl rfl (bR rfl) rfl ?_
 refine aa hcx [] [some 22,some 23,some 24,some 25,some 26,some 27,some 28,some 29,some 30,some 31,some 32,some 33,some 34,some 35,some 36,some 37,some 38,some 39,some 40,some 41,some 42,some 43,some 44,some 45,some 46,some 47,some 48,some 49,some 50,some 51,some 52] [] rfl rfl rfl ?_ bV
 refine Tr.k [3,5,6,52] ?_
 refine bn rfl ?_
 refine Tr.skip ?_
 refine hK1 _ ?_
 have hTB:=rJ (S:=S) hB
 refine bH hcx dJ [61,66,1000071] _ [] rfl rfl rfl rfl ?_ dQ
 obtain ⟨TS,hTS⟩ : ∃TS,XA.2.1=TS:= ⟨_,rfl⟩
 have hRT:iU a++jA f z l S=TS:=by rw[hTA,hTB];rw[List.append_nil];exact hTS
 have hTb:TB TS:=by rw[←hTS];exact bT
 have hTl:TS.length≤16384:=by rw[←hTS];omega
 simp only[hTS]
 refine Tr.k [7] ?_
 refine kN hcx [] ?_
 refine aa hcx [] _ [] rfl rfl rfl ?_ bV
 refine ae fun K27 hK27=> ?_
 refine aa hcx [] _ [] rfl rfl rfl ?_ bV
 refine Tr.k [7,8,9] ?_
 refine Tr.blk ?_
 refine eG hcx (α:=Nat) (fun a=> [(7,?v7_11),(8,sl dC (.own 16) ((TS.take a).map h16)),(9,.val (nI a))]) (fun a=> []) (fun a=>a≤TS.length∧qr TS a) (fun a=>TS.length - a) (0) ⟨Nat.zero_le _,oS TS⟩ ?le_11 ?hh_11 ?bd_11
 case hh_11=>exact rfl
 case le_11=>exact LT
 rintro i hi
 refine ae fun K28 hK28=> ?_
 refine aa hcx [] _ [] rfl rfl rfl ?_ bV
 refine bS rfl (fun hc75=> ?_) (fun hc75=> ?_)
 ·
  have hti: (gt TS i).length< 35184372088832:=hTb _ (kB TS i hc75)
  have e64:=h64 (gt TS i) hti
  have hsl: ((eR (gt TS i)).take 16).length=16:= (h16 (gt TS i)).2
  have hml: ((TS.take i).map h16).length=i:=by rw[List.length_map,List.length_take];omega
  refine Tr.skip ?_
  refine hK28 _ ?_
  refine ae fun K29 hK29=> ?_
  refine Tr.blk ?_
  have hy:=And.intro @e64 @hsl
  refine aa hcx [78,1000086] _ [] rfl rfl rfl ?_ bV
  obtain ⟨L,hL⟩ : ∃L,(TS.take i).map h16++[h16 (gt TS i)] =L:= ⟨_,rfl⟩
  have hLS:L= (TS.take (i+1)).map h16:=by rw[←hL];exact jG TS i hc75
  have hLl:L.length=i+1:=by rw[hLS,List.length_map,List.length_take];omega
  simp only[hL]
  have hy:=True.intro
  refine aa hcx [] _ [] rfl rfl rfl ?_ bV
  refine Tr.k [7,8,9,10] ?_
  refine Tr.blk ?_
  refine eG hcx (α:=Nat) (fun a=> [(7,?v7_12),(8,?v8_12),(9,?v9_12),(10,.val (nI a))]) (fun a=> []) (fun a=>a≤i∧n5 TS i a) (fun a=>i - a) (0) ⟨Nat.zero_le _,oT TS i⟩ ?le_12 ?hh_12 ?bd_12
  case hh_12=>exact rfl
  case le_12=>exact LT
  rintro j hj
  refine ae fun K30 hK30=> ?_
  refine aa hcx [] _ [] rfl rfl rfl ?_ bV
  refine bS rfl (fun hc89=> ?_) (fun hc89=> ?_)
  ·
   have hq1: (gt L i).1.length=16:= (gt L i).2
   have hq2: (gt L j).1.length=16:= (gt L j).2
   have hdr:=jF L i hLl
   have g1: (gt L i).1= (h16 (gt TS i)).1:=by rw[hLS];exact gO TS (i+1) i (by omega) (by omega)
   have g2: (gt L j).1= (h16 (gt TS j)).1:=by rw[hLS];exact gO TS (i+1) j (by omega) (by omega)
   refine Tr.skip ?_
   refine hK30 _ ?_
   refine Tr.k [7,8,9,10] ?_
   refine ae fun K31 hK31=> ?_
   refine Tr.blk ?_
   by_cases d1:gt TS i=gt TS j
   ·
    have hnh: ¬fq TS i j:=fun q=>q.1 d1
    have hy:=And.intro @fF @hdr
    refine bH hcx dJ [] [some 92,some 93,some 94,some 95,some 96,some 97,some 98,some 99,some 100,some 101,some 102,some 103,some 104,some 105,some 106,some 107,some 108,some 109,some 110,some 111] [] rfl rfl rfl rfl ?_ dQ
    refine bn rfl ?_
    refine Tr.skip ?_
    refine hK31 _ ?_
    refine Tr.k [7,8,9,10] ?_
    have hy:=True.intro
    refine bG hcx [1000091] _ [] rfl rfl rfl ?_ bV
    first
    | ((refine ⟨[],⟨by decide,by decide,by decide⟩,j+1,⟨⟨by omega,iX hj.2 hnh⟩,O1⟩,?_,by simp only[bh,aC,aq,bf,bg,Option.map_some,Option.map_none,aI,bd,aB,ao,aK,aH,aZ,a0,a7,a8,aL,ba,af,ag,ah,aj,am,an,aJ,aA,↓reduceIte,Nat.reduceEqDiff,reduceCtorEq,Nat.reduceAdd,Nat.zero_add,Nat.one_ne_zero,Nat.zero_ne_one,bc,bj,ar,au,bm,aw,ax] <;>rfl⟩);(simp only[bE,aP,↓bD,aE,aQ,aF,aR,aS,and_true,true_and,bh,aC,aq,bf,bg,Option.map_some,Option.map_none,aI,bd,aB,ao,aK,aH,aZ,a0,a7,a8,aL,ba,af,ag,ah,aj,am,an,aJ,aA,↓reduceIte,Nat.reduceEqDiff,reduceCtorEq,Nat.reduceAdd,Nat.zero_add,Nat.one_ne_zero,Nat.zero_ne_one,bc,bj,ar,au,bm,aw,ax];all_goals (repeat' first|exact CLe.refl _|exact True.intro| (with_reducible refine And.intro ?_ ?_)));(all_goals exact CLe.refl _);(done))
   skip
   by_cases d2: (gt L i).1= (gt L j).1
   ·
    have hh:fq TS i j:= ⟨d1,by rw[←g1,←g2];exact d2⟩
    have hy:=And.intro @fF @hdr
    refine bH hcx dJ [] [some 92,some 93,some 94,some 95,some 96,some 97,some 98,some 99,some 100,some 101,some 102,some 103,some 104,some 105,some 106,some 107,some 108,some 109,some 110,some 111] [] rfl rfl rfl rfl ?_ dQ
    refine ct rfl ?_
    have hR:fM TS=true:=lc hc75 hc89 hh
    have hy:=True.intro
    refine aa hcx [] _ [] rfl rfl rfl ?_ bV
    exact Tr.ret gP
   have hnh: ¬fq TS i j:=fun q=>d2 (by rw[g1,g2];exact q.2)
   have hy:=And.intro @fF @hdr
   refine bH hcx dJ [] [some 92,some 93,some 94,some 95,some 96,some 97,some 98,some 99,some 100,some 101,some 102,some 103,some 104,some 105,some 106,some 107,some 108,some 109,some 110,some 111] [] rfl rfl rfl rfl ?_ dQ
   refine bn rfl ?_
   refine Tr.skip ?_
   refine hK31 _ ?_
   refine Tr.k [7,8,9,10] ?_
   have hy:=True.intro
   refine bG hcx [1000091] _ [] rfl rfl rfl ?_ bV
   first
   | ((refine ⟨[],⟨by decide,by decide,by decide⟩,j+1,⟨⟨by omega,iX hj.2 hnh⟩,O1⟩,?_,by simp only[bh,aC,aq,bf,bg,Option.map_some,Option.map_none,aI,bd,aB,ao,aK,aH,aZ,a0,a7,a8,aL,ba,af,ag,ah,aj,am,an,aJ,aA,↓reduceIte,Nat.reduceEqDiff,reduceCtorEq,Nat.reduceAdd,Nat.zero_add,Nat.one_ne_zero,Nat.zero_ne_one,bc,bj,ar,au,bm,aw,ax] <;>rfl⟩);(simp only[bE,aP,↓bD,aE,aQ,aF,aR,aS,and_true,true_and,bh,aC,aq,bf,bg,Option.map_some,Option.map_none,aI,bd,aB,ao,aK,aH,aZ,a0,a7,a8,aL,ba,af,ag,ah,aj,am,an,aJ,aA,↓reduceIte,Nat.reduceEqDiff,reduceCtorEq,Nat.reduceAdd,Nat.zero_add,Nat.one_ne_zero,Nat.zero_ne_one,bc,bj,ar,au,bm,aw,ax];all_goals (repeat' first|exact CLe.refl _|exact True.intro| (with_reducible refine And.intro ?_ ?_)));(all_goals exact CLe.refl _);(done))
  refine Tr.exit ?_
  refine hK29 _ ?_
  refine bG hcx [1000077] _ [] rfl rfl rfl ?_ bV
  first
  | ((refine ⟨[],⟨by decide,by decide,by decide⟩,i+1,⟨⟨by omega,oU hi.2 hj.2 (by omega)⟩,O1⟩,?_,by simp only[bh,aC,aq,bf,bg,Option.map_some,Option.map_none,aI,bd,aB,ao,aK,aH,aZ,a0,a7,a8,aL,ba,af,ag,ah,aj,am,an,aJ,aA,↓reduceIte,Nat.reduceEqDiff,reduceCtorEq,Nat.reduceAdd,Nat.zero_add,Nat.one_ne_zero,Nat.zero_ne_one,bc,bj,ar,au,bm,aw,ax] <;>rfl⟩);(simp only[bE,aP,↓bD,aE,aQ,aF,aR,aS,and_true,true_and,bh,aC,aq,bf,bg,Option.map_some,Option.map_none,aI,bd,aB,ao,aK,aH,aZ,a0,a7,a8,aL,ba,af,ag,ah,aj,am,an,aJ,aA,↓reduceIte,Nat.reduceEqDiff,reduceCtorEq,Nat.reduceAdd,Nat.zero_add,Nat.one_ne_zero,Nat.zero_ne_one,bc,bj,ar,au,bm,aw,ax];all_goals (repeat' first|exact CLe.refl _|exact True.intro| (with_reducible refine And.intro ?_ ?_)));(all_goals (refine dL ?_;exact hLS));(done))
 refine Tr.exit ?_
 refine hK27 _ ?_
 have hR:fM TS=false:=mA (by rw[←show i=TS.length by omega];exact hi.2)
 refine aa hcx [] _ [] rfl rfl rfl ?_ bV
 exact Tr.ret gP
end Go.Sx
namespace Go.Sx
open Go.RowKit Go.Proofs
def iT (x:Int) :Prop:= -9223372036854775808≤x∧x≤9223372036854775807
def PB (n:Nat) (p:lS) :Prop:=iT p.1∧iT p.2.1∧p.2.2.1.length≤n∧(∀i,i< p.2.2.1.length→(gt p.2.2.1 i).1.length≤n∧(gt p.2.2.1 i).2.length≤n)∧p.2.2.2.length≤n
theorem IT (x:Int) :iT (l8 x) :=by
 have e:IntKind.wrap .i64 x=if x % 18446744073709551616≥9223372036854775808 then x % 18446744073709551616 - 18446744073709551616 else x % 18446744073709551616:=by
  simp[IntKind.wrap,IntKind.bits,IntKind.signed]
 unfold iT l8
 rw[e]
 constructor<;>split<;>omega
theorem PB.mono {n m:Nat} {p:lS} (h:PB n p) (hm:n≤m) :PB m p:= ⟨h.1,h.2.1,by have:=h.2.2.1;omega,fun i hi=>by have:=h.2.2.2.1 i hi;omega,by have:=h.2.2.2.2;omega⟩
theorem rH {l:List ab} {n:Nat} : (∀i,i< l.length→(gt l i).1.length≤n∧(gt l i).2.length≤n)↔∀x∈l,x.1.length≤n∧x.2.length≤n:=by
 constructor
 · intro h x hx
   obtain ⟨i,hi,rfl⟩ :=List.getElem_of_mem hx
   have:=h i hi
   rwa [IS hi] at this
 · intro h i hi
   rw[IS hi];exact h _ (List.getElem_mem hi)
theorem CW {α:Type} {l:List α} {k:Nat} {a x:α} (h:x∈l.set k a) :x∈l∨x=a:=List.mem_or_eq_of_mem_set h
theorem tl {n:Nat} {p:lS} {w y:Int} (h:PB n p) (hy:iT y) :PB (n+2) (cQ p w y) :=by
 obtain ⟨f,z,l,S⟩ :=p
 obtain ⟨h1,h2,h3,h4,h5⟩ :=h
 simp only at h1 h2 h3 h4 h5
 have h0:PB (n+2) (f,z,l,S) :=PB.mono ⟨h1,h2,h3,h4,h5⟩ (by omega)
 have g:=rH.1 h4
 have kl:=w7 (bF y 40)
 have hc:=ey w (m:=11) (by omega)
 obtain ⟨c,hC⟩ : ∃c,bF w 11=c:= ⟨_,rfl⟩
 obtain ⟨k,hK⟩ : ∃k,bF y (max l.length 1) =k:= ⟨_,rfl⟩
 obtain ⟨j,hJ⟩ : ∃j,bF y (max S.length 1) =j:= ⟨_,rfl⟩
 have hk:=ey y (m:=max l.length 1) (by omega)
 have hj:=ey y (m:=max S.length 1) (by omega)
 rw[hC] at hc;rw[hK] at hk;rw[hJ] at hj
 have gk:0< l.length→(gt l k).1.length≤n∧(gt l k).2.length≤n:=fun q=>h4 k (by omega)
 have mk: ∀ {L:List ab},L.length≤n+2→(∀x∈L,x.1.length≤n+2∧x.2.length≤n+2)→PB (n+2) (f,z,L,S) :=fun q1 q2=> ⟨h1,h2,q1,rH.2 q2,by show S.length≤n+2;omega⟩
 have mks: ∀ {D:List cf},D.length≤n+2→PB (n+2) (f,z,l,D) :=fun q1=> ⟨h1,h2,h0.2.2.1,h0.2.2.2.1,q1⟩
 have g2: ∀x∈l,x.1.length≤n+2∧x.2.length≤n+2:=fun x hx=>by have:=g x hx;omega
 rcases c with _|_|_|_|_|_|_|_|_|_|_|c
 · rw[CI hC];exact ⟨IT _,h0.2⟩
 · rw[CJ hC];exact ⟨h1,IT _,h0.2.2⟩
 · rw[CK hC]
   refine ⟨h1,?_,h0.2.2⟩
   show iT (gt [y,4096,4097,-1] (bF y 4))
   have:=ey y (m:=4) (by omega)
   generalize bF y 4=q at this
   rcases q with _|_|_|_|q
   · exact hy
   · show iT 4096;unfold iT;decide
   · show iT 4097;unfold iT;decide
   · show iT (-1);unfold iT;decide
   · omega
 · rw[CL hC];exact ⟨hy,h0.2⟩
 · by_cases q:0< l.length
   · rw[CM hK hC q]
     refine mk (by rw[List.length_set];omega) fun x hx=> ?_
     rcases CW hx with hx|rfl
     · exact g2 x hx
     · have:=gk q;simp only;omega
   · rw[mw (.inl hC) q];exact h0
 · by_cases q:0< l.length
   · rw[CN hK hC q]
     refine mk (by rw[List.length_set];omega) fun x hx=> ?_
     rcases CW hx with hx|rfl
     · exact g2 x hx
     · have:=gk q;simp only[List.length_append,List.length_singleton];omega
   · rw[mw (.inr (.inl hC)) q];exact h0
 · by_cases q:0< l.length
   · rw[CO hK hC q]
     refine mk (by rw[List.length_append,List.length_take,List.length_drop];omega) fun x hx=> ?_
     rcases List.mem_append.1 hx with hx|hx
     · exact g2 x (List.mem_of_mem_take hx)
     · exact g2 x (List.mem_of_mem_drop hx)
   · rw[mw (.inr (.inr hC)) q];exact h0
 · rw[CP hC]
   refine mk (by simp only[List.length_append,List.length_singleton];omega) fun x hx=> ?_
   rcases List.mem_append.1 hx with hx|hx
   · exact g2 x hx
   · rw[List.mem_singleton.1 hx];simp only[List.length_nil];omega
 · by_cases q:0< S.length
   · rw[CQ hJ hC q];exact mks (by rw[List.length_set];omega)
   · rw[rE (.inl hC) q];exact h0
 · by_cases q:0< S.length
   · rw[CR hJ hC q];exact mks (by rw[List.length_append,List.length_take,List.length_drop];omega)
   · rw[rE (.inr hC) q];exact h0
 · rw[y0 hC];exact mks (by simp only[List.length_append,List.length_singleton];omega)
 · omega
def pC (p:lS) :List C:= [.val (.int .i64 p.1),.val (.int .i64 p.2.1),sl eC .no p.2.2.1,sl dC .no p.2.2.2]
instance:Cel pC 4:= ⟨fun _=>rfl,fun _=>rfl,by decide,fun _ _=>rfl⟩
inductive CLs:List C→List C→Prop
 |nil:CLs [] []
 |cons {x y:C} {l m:List C} (h:CLe x y) (t:CLs l m) :CLs (x::l) (y::m)
theorem cU (ρ:List Nat) (r:Rt) (l:List lS) :cC ρ (sl pC r l) =sl pC r l:=by
 have key: ∀l:List lS,mvCs ρ (cl pC l) =cl pC l:=fun l=>by
  induction l with
  |nil=>show mvCs ρ [] = [];simp only[mvCs]
  |cons x l ih=>
   show mvCs ρ (.val (.int .i64 x.1) :: .val (.int .i64 x.2.1) ::sl eC .no x.2.2.1::sl dC .no x.2.2.2::cl pC l) =_
   simp only[mvCs,cC,aZ,ih];rfl
 show cC ρ (.sl r l.length (cl pC l)) = .sl r l.length (cl pC l)
 simp only[cC,key]
theorem Lr (ok:Nat→Bool) (b:Nat) (ys:List C) (r:Rt) (l:List lS) :cz ok b ys (sl pC r l) =sl pC r l:=by
 have key: ∀l:List lS,fzCs ok b ys (cl pC l) =cl pC l:=fun l=>by
  induction l with
  |nil=>show fzCs ok b ys [] = [];simp only[fzCs]
  |cons x l ih=>
   show fzCs ok b ys (.val (.int .i64 x.1) :: .val (.int .i64 x.2.1) ::sl eC .no x.2.2.1::sl dC .no x.2.2.2::cl pC l) =_
   simp only[fzCs,mV,oF,ih];rfl
 show cz ok b ys (.sl r l.length (cl pC l)) = .sl r l.length (cl pC l)
 simp only[cz,key]
def kH (p:ID) :lS:= ((p.1:Int),(p.2.1:Int),p.2.2.1,p.2.2.2)
theorem Ls (r x y:List UInt8) (f z:Int) (l:List ab) (S:List cf) : (fp r x y f z l S).1.length≤l.length:=by
 unfold fp
 split
 · exact Nat.zero_le _
 · split
   · split
     · exact Nat.zero_le _
     · rw[List.length_take,List.length_drop];omega
   · exact Nat.zero_le _
theorem PB.lb {n:Nat} {p:lS} (h:PB n p) (hn:n≤1000000) :LB p.2.2.1:=m7 ⟨by have:=h.2.2.1;omega,fun i hi=>by have:=h.2.2.2.1 i hi;omega⟩
theorem PK {l:List ab} {n:Nat} (h: ∀i,i< l.length→(gt l i).1.length≤n∧(gt l i).2.length≤n) (a b:Nat) : ∀i,i< ((l.drop a).take b).length→(gt ((l.drop a).take b) i).1.length≤n∧(gt ((l.drop a).take b) i).2.length≤n:=
 rH.2 fun x hx=>rH.1 h x (List.mem_of_mem_drop (List.mem_of_mem_take hx))
theorem w4 {l:List ab} {n:Nat} (h:l.length≤n) (h2: ∀i,i< l.length→(gt l i).1.length≤n∧(gt l i).2.length≤n) (hn:4096≤n∧n≤1000000) {f e:Nat} (hf:f≤l.length) :PB n (kH (m6 l f e)) :=
 ⟨by unfold iT;show -9223372036854775808≤((f:Nat) :Int)∧((f:Nat) :Int)≤_;omega,by unfold iT;show -9223372036854775808≤((l.length:Nat) :Int)∧((l.length:Nat) :Int)≤_;omega,
   by show ((l.drop f).take (e - f)).length≤n;rw[List.length_take,List.length_drop];omega,PK h2 _ _,by have:=Pg l f e;show (c9 l f e).length≤n;omega⟩
theorem w5 (n:Nat) :PB n (kH (0,0,[],[])) := ⟨by unfold iT;decide,by unfold iT;decide,Nat.zero_le _,fun i hi=>absurd hi (Nat.not_lt_zero i),Nat.zero_le _⟩
theorem PL {l:List ab} {n:Nat} (h:l.length≤n) (h2: ∀i,i< l.length→(gt l i).1.length≤n∧(gt l i).2.length≤n) (hn:4096≤n∧n≤1000000) (k:List UInt8) :PB n (kH (db l k).1) :=by
 have hle:=e7 l k
 unfold db
 split
 · simp only[]
   split
   · exact w4 h h2 hn hle
   · exact w4 h h2 hn (by omega)
 · exact w5 n
theorem PM {l:List ab} {n:Nat} (h:l.length≤n) (h2: ∀i,i< l.length→(gt l i).1.length≤n∧(gt l i).2.length≤n) (hn:4096≤n∧n≤1000000) (x y:List UInt8) :PB n (kH (dc l x y).1) :=by
 have hle:=e7 l x
 unfold dc
 split
 · split
   · exact w5 n
   · exact w4 h h2 hn (by omega)
 · exact w5 n
end Go.Sx
namespace Go.Sx
open Go.RowKit Go.Proofs
set_option maxRecDepth 100000
section
variable {gl:Nat→C} {M:Nat} {pu:Nat→List C→Option C}
theorem Vc (hcx:CxOK (aO gl M pu)) (hnr: ∀ (g:Nat) (xs:List C),noRefs 0 xs=false→pu g xs=none) (h65: ∀ (tag:Int) (parts:List (List UInt8)),(cL tag parts).length< 1099511627776→pu 65 [.val (.int .i64 tag),sl sC .no parts] =some (sl bC (.own 1) (cL tag parts))) (h64: ∀b:List UInt8,b.length< 35184372088832→pu 64 [sl bC .no b] =some (.agg (cl bC ((eR b).take 16)))) (h84: ∀h:List UInt8,h.length=16→pu 84 [.agg (cl bC h)] =some (.val (str h))) (h106: ∀n:Nat,n≤4611686018427387000→pu 106 [.val (nI n)] =some (.val (nI (aV n)))) (h83: ∀n:Int,-9223372036854775808≤n∧n≤9223372036854775807→pu 83 [.val (.int .i64 n)] =some (sl bC (.own 1) (cX n)))
 (a:List ab) (f z:Int) (l:List ab) (S:List cf) (ha:LZ a) (ha2:a.length≤4096) (hf: -9223372036854775808≤f∧f≤9223372036854775807) (hz: -9223372036854775808≤z∧z≤9223372036854775807) (hl:l.length≤1000000) (hl2: ∀i,i< l.length→(gt l i).1.length< 1000000∧(gt l i).2.length< 1000000) (hS:S.length≤1000000) :
 FC Tryd.prog gl 37 [sl eC .no a,.agg [.val (.int .i64 f),.val (.int .i64 z),sl eC .no l,sl dC .no S]] [] (.val (.bool (fM (iU a++jA f z l S)))) [] :=by
 have F:=YY hcx hnr h65 h64 h84 h106 h83
 exact Y8 (hcx:=gz (M:=M) (kY hcx M) ⟨_,Tryd.func52,rfl,rfl⟩ (Pr F)) (hnr:=hnr) (h64:=h64) (hn52:=fun xs h=>Small.never _ _ xs h)
  (hq52:=fun pre suf l f S n T u sh h0 h1 h2 h3 h4 h5 h6 h7=>by
    have h:=jz (Pr F) (fun _ _ _=>none) ⟨(l,f,S,n,T,u,sh),h2,h3,h4,h5,h6,h7⟩ pre suf h0 h1
    simpa only[Pr,List.length_nil,Nat.zero_add,Nat.add_zero,bkCs,c7,mZ,sX,jU,mY,Option.map_some,List.map_cons,List.map_nil,List.nil_append,List.cons_append] using h) (a:=a) (f:=f) (z:=z) (l:=l) (S:=S) (ha:=ha) (ha2:=ha2) (hf:=hf) (hz:=hz) (hl:=hl) (hl2:=hl2) (hS:=hS)
end
end Go.Sx
namespace Go.Sx
theorem X1 (m:Nat) :m< 256 ^ (le m).length:=by
 induction m using Nat.strongRecOn with
 |_ m ih=>
  by_cases h:m=0
  · subst h;rw[gY];decide
  · have:=ih (m / 256) (Nat.div_lt_self (by omega) (by decide))
    rw[ii m h,List.length_cons,Nat.pow_succ]
    omega
theorem FG (f:UInt8) : ∀ (k m:Nat),m< 256 ^ k→eZ f ((be m k).map (· ^^^ f)) =m
 |0,m,h=>by
  have:m=0:=by simpa using h
  subst this;rfl
 |k+1,m,h=>by
  have e:m=m / 256*256+m % 256:=by omega
  have h2:m / 256< 256 ^ k:=by rw[Nat.pow_succ] at h;exact Nat.div_lt_of_lt_mul (by omega)
  have h3:m % 256< 256:=Nat.mod_lt _ (by decide)
  conv=>lhs;rw[e]
  rw[zS _ _ _ h3,List.map_append,List.map_cons,List.map_nil,oK,FG f k _ h2,UInt8.xor_assoc,UInt8.xor_self,UInt8.xor_zero]
  have: (UInt8.ofNat (m % 256)).toNat=m % 256:=by show (m % 256) % 256=m % 256;omega
  omega
theorem Oq (f:UInt8) (hf:f=0∨f=255) (L:Nat) (h:L≤8) :cA (UInt8.ofNat (128+L) ^^^ f) =f:=by
 have: ∀L< 9,cA (UInt8.ofNat (128+L) ^^^ 0) =0∧cA (UInt8.ofNat (128+L) ^^^ 255) =255:=by decide
 rcases hf with rfl|rfl
 · exact (this L (by omega)).1
 · exact (this L (by omega)).2
theorem zT (m:Nat) (f:UInt8) (hf:f=0∨f=255) (hm:m< 9223372036854775808) (t:List UInt8) :ry (wI m f++t) = (if f=255 then -1 - (m:Int) else (m:Int),(le m).length+1,0) :=by
 have hL: (le m).length≤8:=fm 8 m (by omega)
 have hfl:=Oq f hf _ hL
 have hk:nW (UInt8.ofNat (128+(le m).length) ^^^ f) = (le m).length:=by
  unfold nW
  rw[hfl,UInt8.xor_assoc,UInt8.xor_self,UInt8.xor_zero]
  show (128+(le m).length) % 256 - 128=_
  omega
 have hbl: ((be m (le m).length).map (· ^^^ f)).length= (le m).length:=by rw[List.length_map,gi]
 have htk: ((be m (le m).length).map (· ^^^ f)++t).take (le m).length= (be m (le m).length).map (· ^^^ f) :=by
  rw[List.take_append_of_le_length (by omega),List.take_of_length_le (by omega)]
 have hac:eZ (cA (UInt8.ofNat (128+(le m).length) ^^^ f)) (((be m (le m).length).map (· ^^^ f)++t).take (le m).length) =m:=by
  rw[hfl,htk];exact FG f _ m (X1 m)
 have hrl: (le m).length≤((be m (le m).length).map (· ^^^ f)++t).length:=by rw[List.length_append];omega
 have h3:= (X0 hk hL hrl).1 (by rw[hac,htk,hfl];rfl)
 have h128:=aa0 (UInt8.ofNat (128+(le m).length) ^^^ f)
 show ry ((UInt8.ofNat (128+(le m).length) ^^^ f) :: ((be m (le m).length).map (· ^^^ f)++t)) =_
 rcases hf with rfl|rfl
 · have hx: ¬ (UInt8.ofNat (128+(le m).length) ^^^ 0:UInt8) < 128:=by
    intro hx
    have:=hfl
    unfold cA at this
    rw[if_pos hx] at this
    exact absurd this (by decide)
   rw[UA hk (by omega) (by rw[List.length_cons];omega) h3 (by rw[hac];omega) hx,hac]
   rfl
 · have hx: (UInt8.ofNat (128+(le m).length) ^^^ 255:UInt8) < 128:=by
    apply Classical.byContradiction
    intro hx
    have:=hfl
    unfold cA at this
    rw[if_neg hx] at this
    exact absurd this (by decide)
   rw[Uz hk (by omega) (by rw[List.length_cons];omega) h3 (by rw[hac];omega) hx,hac]
   rfl
theorem FH (m:Nat) (f:UInt8) : (wI m f).length= (le m).length+1:=by unfold wI;rw[List.length_cons,List.length_map,gi]
theorem uS (n:Int) (hn: -9223372036854775808≤n∧n≤9223372036854775807) (t:List UInt8) :ry (cX n++t) = (n,(cX n).length,0) :=by
 rcases Int.lt_or_le n 0 with h|h
 · obtain ⟨m,hm⟩ : ∃m:Nat,n= -1 - (m:Int) := ⟨(-1 - n).toNat,by omega⟩
   subst hm
   have hL: (le m).length≤8:=fm 8 m (by omega)
   rw[m9 m hL,zT m 255 (.inr rfl) (by omega),FH,if_pos rfl]
 · obtain ⟨m,hm⟩ : ∃m:Nat,n= (m:Int) := ⟨n.toNat,by omega⟩
   subst hm
   rw[ik,zT m 0 (.inl rfl) (by omega),FH,if_neg (by decide)]
end Go.Sx
