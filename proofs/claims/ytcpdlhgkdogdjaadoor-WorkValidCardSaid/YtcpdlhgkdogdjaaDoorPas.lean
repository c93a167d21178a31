/-
   And what follows.
-/
import Derived.Test.YtcpdlhgkdogdjaaDoorPaq
import Derived.Test.YtcpdlhgkdogdjaaDoorPar
import Derived.Test.YtcpdlhgkdogdjaaDoorPap
import Derived.Test.YtcpdlhgkdogdjaaDoorPan
set_option linter.unusedSimpArgs false
set_option linter.unusedVariables false
namespace Go.Sx
open Go.RowKit Go.Proofs
theorem xE {w:ah}{k:Nat}(h:k< (aZ w).length):∃v a j,dI w (gt (aZ w) k).1= ((v,a,j),true)∧v< w.length∧a< (gt w v).length∧j< (gt (gt w v) a).2.length:=by
 rw[eV] at h
 have hm:gt (aS w) k∈aS w:=bz _ _ h
 rw[jW w k h]
 unfold dI
 cases hf: (aS w).find? (fun r=>decide (r.2.1= (gt (aS w) k).2.1)) with
 |none=>
  have:=List.find?_eq_none.1 hf _ hm
  simp at this
 |some r=>
  have hr:=List.mem_of_find?_eq_some hf
  unfold aS at hr
  rw[List.mem_flatMap] at hr
  obtain ⟨v,hv,hr⟩:=hr
  unfold vc at hr
  rw[List.mem_flatMap] at hr
  obtain ⟨a,ha,hr⟩:=hr
  unfold k7 at hr
  rw[List.mem_map] at hr
  obtain ⟨j,hj,rfl⟩:=hr
  exact ⟨v,a,j,rfl,List.mem_range.1 hv,List.mem_range.1 ha,List.mem_range.1 hj⟩
theorem rO (r:Nat→Nat)(x:C):∀ (l:List C)(i:Nat),bkCs r (l.set i x) = (bkCs r l).set i (cV r x)
 | [],_=>by simp only[List.set_nil,bkCs]
 |y::l,0=>by simp only[List.set_cons_zero,bkCs]
 |y::l,i+1=>by simp only[List.set_cons_succ,bkCs,rO r x l i]
theorem SQ (n v m:Nat)(w:ah):bkCs (n+ ·) (fV 0 v m w) =fV n v m w:=by unfold fV;rw[rO,uK];rfl
theorem SR (n a m:Nat)(V:ct):bkCs (n+ ·) (fA 0 a m V) =fA n a m V:=by unfold fA;rw[rO,uK];rfl
def Cv (w:ah)(v a:Nat):Hp:=[some (fV 0 v (gt w v).length w),some (fA 0 a (gt (gt w v) a).2.length (gt w v)),some (cl pC (gt (gt w v) a).2)]
section
variable {gl:Nat→C} {pu:Nat→List C→Option C}
noncomputable def qL (pu:Nat→List C→Option C):Nat→List C→Option C:=fun f xs=>if (f=19∨f=21∨f=33)∧noRefs 0 xs=true then pu f xs else none
theorem Qi {M:Nat}(hcx:CxOK (aD gl M pu)):CxOK (aD gl M (qL pu)):=by
 refine ⟨hcx.glo,fun f xs c hc h=>?_,(fun _ _ _ _ _ h=>by cases h),hcx.km⟩
 have hc:qL pu f xs=some c:=hc
 unfold qL at hc
 split at hc
 . exact hcx.pu f xs c hc h
 . cases hc
theorem lp (k:Nat)(x:C)(hx:af k x=false):∀ (l:List C)(i:Nat),i< l.length→noRefs k (l.set i x) =false
 |y::l,0,_=>by simp only[List.set_cons_zero,noRefs,hx,Bool.false_and]
 |y::l,i+1,h=>by simp only[List.set_cons_succ,noRefs,lp k x hx l i (by simpa using h),Bool.and_false]
theorem Qj {w:ah}{v a:Nat}(hv:v< w.length)(ha:a< (gt w v).length)(k:Nat)(xs:List C):noRefs 0 (.agg [xF w v a k]::xs) =false:=by
 have h1:noRefs 0 (xA (gt w v) a k) =false:=lp 0 (.gv 0 k (7,37)) rfl _ _ (by rw[aA (f:=aC)];omega)
 have h2:noRefs 0 (xV w v a k) =false:=lp 0 (.sl .no (gt w v).length (xA (gt w v) a k)) h1 _ _ (by rw[aA (f:=vC)];omega)
 show ((noRefs 0 (xV w v a k) && true) && noRefs 0 xs) =false
 rw[h2];rfl
theorem Qk {w:ah}{v a:Nat}(hv:v< w.length)(ha:a< (gt w v).length)(xs:List C)(k:Nat):qL pu 33 (.agg [xF w v a k]::xs) =none:=if_neg fun e=>by rw[Qj hv ha] at e;exact Bool.false_ne_true e.2
theorem Gt (f:Nat)(h:¬ (f=19∨f=21∨f=33))(xs:List C):qL pu f xs=none:=if_neg fun e=>h e.1
theorem rP {f:Nat}{xs:List C}(h:f=19∨f=21∨f=33)(hn:noRefs 0 xs=true):qL pu f xs=pu f xs:=if_pos ⟨h,hn⟩
noncomputable def vx {M:Nat}(hcx:CxOK (aD gl M pu))(w:ah)(v a:Nat)(hw:WG w):Mk Tryd.prog gl 20 Unit where
 args _:=[.agg [sl vC .no w]]
 r _:= .agg [.gv 0 w.length (1,46)]
 Y _:=Cv w v a++[some [.gv 0 w.length (1,46)]]
 nr _:=by simp only[noRefs,af,ax,Bool.and_self]
 inj _ _ _:=⟨rfl,rfl⟩
 fc _:=SC hcx w v a hw
theorem sM {M:Nat}(hcx:CxOK (aD gl M pu))(w:ah)(v a:Nat)(hw:WG w)(hp:Nat→List C→Hp→Option (C×Hp)):∀pre:Hp,OkH pre→(vx hcx w v a hw).tab hp 20 [.agg [sl vC .no w]] pre=some (.agg [.gv pre.length w.length (1,46)],pre++[some (fV pre.length v (gt w v).length w),some (fA pre.length a (gt (gt w v) a).2.length (gt w v)),some (cl pC (gt (gt w v) a).2),some [.gv pre.length w.length (1,46)]]):=fun pre h=>by
 have e:=(vx hcx w v a hw).look hp () pre h
 have e1:eL pre.length ((vx hcx w v a hw).Y ()) = [some (fV pre.length v (gt w v).length w),some (fA pre.length a (gt (gt w v) a).2.length (gt w v)),some (cl pC (gt (gt w v) a).2),some [.gv pre.length w.length (1,46)]]:=by
  show [some (bkCs _ (fV 0 v (gt w v).length w)),some (bkCs _ (fA 0 a (gt (gt w v) a).2.length (gt w v))),some (bkCs _ (cl pC (gt (gt w v) a).2)),some [C.gv (pre.length+0) w.length (1,46)]] =_
  rw[SQ,SR,uK]
  rfl
 rw[e1] at e
 exact e
theorem SS (w:ah)(v a:Nat):∀o∈Cv w v a,((aP o).isSome|| (fj o).isSome) =true:=by
 intro o ho
 simp only[Cv,List.mem_cons,List.not_mem_nil,or_false] at ho
 rcases ho with rfl|rfl|rfl
 . rw[xw];rfl
 . rw[xx];rfl
 . rw[g4];rfl
theorem vy {M N:Nat}{hp:Nat→List C→Hp→Option (C×Hp)}(hcx:CxOK (aD gl N pu))(hc:CxOK (ic gl N pu hp))(w:ah)(v a:Nat)(hw:WG w):CxOK (ic gl M pu (hpS hp 14 [.agg [.gv 0 w.length (1,46)]] (Cv w v a) (sl pC (.own 7) (aZ w),Cv w v a))):=
 nt hc (SF hcx w v a hw) rfl (SS w v a) rfl (rJ _ _ _ 3 (by decide)) (ax pC 3 (.own 7) (aZ w)) (rJ _ _ _ 3 (by decide))
theorem vz {M N:Nat}{hp:Nat→List C→Hp→Option (C×Hp)}(hcx:CxOK (aD gl N pu))(hc:CxOK (ic gl N pu hp))(w:ah)(v a:Nat)(hw:WG w):CxOK (ic gl M pu ((vx hcx w v a hw).tab hp)):=uO hc (vx hcx w v a hw)
theorem Gu {M:Nat}(hcx:CxOK (aD gl M pu)):CxOK (ic gl M pu (fun _ _ _=>none)):=qC hcx
theorem Vq {M:Nat}(hcx:CxOK (aD gl M pu))
 (h19:∀ (n:Int)(m:Nat),-9223372036854775808≤n∧n≤9223372036854775807∧0< m∧m≤9223372036854775807→pu 19 [.val (.int .i64 n),.val (nI m)] =some (.val (nI (aa n m))))
 (h21:∀ (l:List Int)(k:Nat)(id:ID),LI l→k≤900→pu 21 [sl iC .no l,.val (nI k),.agg (iD id)] =some (.agg (pC (aY l k id))))
 (h33:∀ (w:ah)(id:ID),WB w→pu 33 [.agg [sl vC .no w],.agg (iD id)] =some (.tup [.agg [.val (nI (dI w id).1.1),.val (nI (dI w id).1.2.1),.val (nI (dI w id).1.2.2)],.val (.bool (dI w id).2)]))
 (w:ah) (how y:Int) (hw:WG w) (hho: -9223372036854775808≤how∧how≤9223372036854775807) (hy0: -9223372036854775808≤y∧y≤9223372036854775807):
 FC Tryd.prog gl 51 [.agg [sl vC .no w],.val (.int .i64 how),.val (.int .i64 y)] [] (.agg [sl vC .no (ao w how y)]) []:=by
 have hcS:=Qi hcx
 have n0:=fun f h xs=>Gt (pu:=pu) f h xs
 have h19':∀ (n:Int)(m:Nat),-9223372036854775808≤n∧n≤9223372036854775807∧0< m∧m≤9223372036854775807→qL pu 19 [.val (.int .i64 n),.val (nI m)] =some (.val (nI (aa n m))):=fun n m h=>(rP (.inl rfl) rfl).trans (h19 n m h)
 have h21':∀ (l:List Int)(k:Nat)(id:ID),LI l→k≤900→qL pu 21 [sl iC .no l,.val (nI k),.agg (iD id)] =some (.agg (pC (aY l k id))):=fun l k id h1 h2=>(rP (.inr (.inl rfl)) (by simp only[noRefs,ax,Bool.true_and];rfl)).trans (h21 l k id h1 h2)
 have h33':∀ (w:ah)(id:ID),WB w→qL pu 33 [.agg [sl vC .no w],.agg (iD id)] =some (.tup [.agg [.val (nI (dI w id).1.1),.val (nI (dI w id).1.2.1),.val (nI (dI w id).1.2.2)],.val (.bool (dI w id).2)]):=fun w id h=>(rP (.inr (.inr rfl)) (by
  show (noRefs 0 [sl vC .no w] && (noRefs 0 (iD id) && true)) =true
  have e:noRefs 0 [sl vC .no w] =true:=by simp only[noRefs,ax,Bool.and_self]
  rw[e];rfl)).trans (h33 w id h)
 by_cases hA:0< (aZ w).length∧aa how 2=0
 . obtain ⟨v,a,j,hf,hv,ha,hj⟩:=xE (cJ y hA.1)
   have hx1:∀o∈ [some (cl pC (gt (gt w v) a).2)],((aP o).isSome|| (fj o).isSome) =true:=fun o ho=>by
    obtain rfl:=List.mem_singleton.1 ho
    rw[g4];rfl
   have hna:∀xs:List C,noRefs 1 xs=true→noRefs 1 (.agg [xF w v a (gt (gt w v) a).2.length]::xs) =true:=fun xs h=>by
    show (af 1 (.agg [xF w v a (gt (gt w v) a).2.length]) && noRefs 1 xs) =true
    rw[y5,h];rfl
   have k35:=nt (M:=120) (az:=[.agg [xF w v a (gt (gt w v) a).2.length],.agg [.val (nI v),.val (nI a),.val (nI j)]]) (X:=[some (cl pC (gt (gt w v) a).2)]) (r:=(.tup [.agg (pC (gt (gt (gt w v) a).2 j)),.val (.bool true)],[some (cl pC (gt (gt w v) a).2)])) (Gu (M:=M) hcS) (SL hcS w v a j hv ha hj hw) rfl hx1 (hna _ rfl) (ko _ 1) (by
    show (noRefs 1 (pC (gt (gt (gt w v) a).2 j)) && (true && true)) =true
    rw[aH];rfl) (ko _ 1)
   have f92:=SM k35 w v a j (how.tdiv ((2:Nat):Int)) (y.tdiv ((8:Nat):Int)) hv ha hj hw (iB how 2 hho) (iB y 8 hy0) (n0 35 (by decide)) (fun suf hs=>lP _ _ _ _ _ suf hs) h19'
   have k92:=nt (M:=M) (az:=[.agg [xF w v a (gt (gt w v) a).2.length],.agg [.val (nI v),.val (nI a),.val (nI j)],.val (.int .i64 (how.tdiv ((2:Nat):Int))),.val (.int .i64 (y.tdiv ((8:Nat):Int)))]) (X:=[some (cl pC (gt (gt w v) a).2)]) (r:=(.agg [xF w v a (gt (gt w v) a).2.length],[some (cl pC ((gt (gt w v) a).2.set j (eR (gt (gt (gt w v) a).2 j) (how.tdiv ((2:Nat):Int)) (y.tdiv ((8:Nat):Int)))))])) (Gu (M:=M) hcS) f92 rfl hx1 (hna _ rfl) (ko _ 1) (y5 ..) (ko _ 1)
   have k14:=vy (M:=M) hcS k92 w v a hw
   have k20:=vz (M:=242) hcS k14 w v a hw
   exact SP k20 w how y v a hw hho hy0 j hv ha hj hA.1 hA.2 hf (n0 20 (by decide)) (n0 14 (by decide)) (Qk hv ha) (n0 92 (by decide)) (sM hcS w _ _ hw _) (fun suf hs=>(rA _ _ (by decide) _ _).trans (lP _ _ _ _ _ suf hs)) h33' (fun suf hs=>(rA _ _ (by decide) _ _).trans ((Fk _ _ _ _ (by decide) _ _).trans (lP _ _ _ _ _ suf hs))) h19'
 . have k14:=vy (M:=M) hcS (Gu hcS) w (aa y w.length) (aa (y.tdiv ((2:Nat):Int)) (max (gt w (aa y w.length)).length 1)) hw
   have k20:=vz (M:=242) hcS k14 w (aa y w.length) (aa (y.tdiv ((2:Nat):Int)) (max (gt w (aa y w.length)).length 1)) hw
   exact SK k20 w how y _ _ hw hho hy0 rfl rfl hA (n0 20 (by decide)) (n0 14 (by decide)) (sM hcS w _ _ hw _) (fun suf hs=>(rA _ _ (by decide) _ _).trans (lP _ _ _ _ _ suf hs)) h19' h21'
end
end Go.Sx
namespace Go.Sx
open Go.RowKit Go.Proofs
def PZ (N:Nat)(p:aI):Prop:=p.2.2.2.1.length≤N∧p.2.2.2.2.length≤N∧c9 p.1
def AZ (N:Nat)(A:gy):Prop:=A.1.length≤N∧A.2.length≤N∧∀p,p∈A.2→PZ N p
def iL (V:ct):List aI:=V.flatMap (·.2)
structure WZ (N:Nat) (w:ah):Prop where
 n:w.length≤N
 al: (w.flatMap iL).length≤N
 ar:w.flatten.length≤N
 v:∀V,V∈w→V.length≤N∧∀A,A∈V→AZ N A
theorem PZ.mono {N K:Nat}(h:N≤K){p:aI}(hp:PZ N p):PZ K p:=⟨Nat.le_trans hp.1 h,Nat.le_trans hp.2.1 h,hp.2.2⟩
theorem AZ.mono {N K:Nat}(h:N≤K){A:gy}(hA:AZ N A):AZ K A:=⟨Nat.le_trans hA.1 h,Nat.le_trans hA.2.1 h,fun p hp=>(hA.2.2 p hp).mono h⟩
theorem ke {α β:Type}(f:α→List β)(x:α):∀ (l:List α)(i:Nat),((l.set i x).flatMap f).length≤(l.flatMap f).length+(f x).length
 | [],_=>by simp
 |y::l,0=>by simp only[List.set_cons_zero,List.flatMap_cons,List.length_append];omega
 |y::l,i+1=>by
  have:=ke f x l i
  simp only[List.set_cons_succ,List.flatMap_cons,List.length_append];omega
theorem qM {α β:Type}(f:α→List β)(x:α):∀ (l:List α),x∈l→(f x).length≤(l.flatMap f).length
 |y::l,h=>by
  simp only[List.flatMap_cons,List.length_append]
  rcases List.mem_cons.1 h with rfl|h
  . omega
  . have:=qM f x l h;omega
theorem vA {α:Type}(l:List (List α))(i:Nat)(x:List α): (l.set i x).flatten.length≤l.flatten.length+x.length:=by
 have:=ke (fun y:List α=>y) x l i
 simpa[List.flatMap_id'] using this
theorem WZ.set {N:Nat}{w:ah}(h:WZ N w)(v:Nat)(V:ct)(h1:V.length≤2*N+100)(h2: (iL V).length≤2*N+100)(h3:∀A,A∈V→AZ (3*N+300) A):WZ (3*N+300) (w.set v V):=by
 have q1:=ke iL V w v
 have q2:=vA w v V
 have q3:=h.n
 have q4:=h.al
 have q5:=h.ar
 refine ⟨by rw[List.length_set];omega,by omega,by omega,fun X hX=>?_⟩
 rcases List.mem_or_eq_of_mem_set hX with hX|rfl
 . have:=h.v X hX
   exact ⟨by omega,fun A hA=>(this.2 A hA).mono (by omega)⟩
 . exact ⟨by omega,h3⟩
theorem WZ.mono {N K:Nat}{w:ah}(h:WZ N w)(hk:N≤K):WZ K w:=
 ⟨Nat.le_trans h.n hk,Nat.le_trans h.al hk,Nat.le_trans h.ar hk,fun V hV=>⟨Nat.le_trans (h.v V hV).1 hk,fun A hA=>((h.v V hV).2 A hA).mono hk⟩⟩
theorem WZ.alv {N:Nat}{w:ah}(h:WZ N w){V:ct}(hV:V∈w): (iL V).length≤N:=Nat.le_trans (qM iL V w hV) h.al
theorem WZ.setL {N:Nat}{w:ah}(h:WZ N w){v a:Nat}(hv:v< w.length)(ha:a< (gt w v).length)(t:List UInt8)(l:List aI)(ht:t.length≤N+100)(hl:l.length≤N+1)(hp:∀p,p∈l→PZ (N+100) p):WZ (3*N+300) (w.set v ((gt w v).set a (t,l))):=by
 have hV:=bz w v hv
 have q1:=(h.v _ hV).1
 have q2:=h.alv hV
 have q3:=ke (fun A:gy=>A.2) (t,l) (gt w v) a
 refine h.set v _ (by rw[List.length_set];omega) ?_ fun A hA=>?_
 . have: (iL ((gt w v).set a (t,l))).length≤(iL (gt w v)).length+l.length:=q3
   omega
 . rcases List.mem_or_eq_of_mem_set hA with hA|rfl
   . exact ((h.v _ hV).2 A hA).mono (by omega)
   . exact ⟨by show t.length≤_;omega,by show l.length≤_;omega,fun p hp'=>(hp p hp').mono (by omega)⟩
theorem rQ {a c:Nat}{y:Int}{i:Nat}(hi:i< 4)(ha:a≤2000)(hc:c≤2000)(hy: -9223372036854775808≤y∧y≤9223372036854775807):qS (gt (xy a c y) i):=by
 match i,hi with
 |0,_=>exact ⟨by show -9223372036854775808≤(a:Int);omega,by show (a:Int)≤9223372036854775807;omega⟩
 |1,_=>exact ⟨by show -9223372036854775808≤(-1:Int);omega,by show (-1:Int)≤9223372036854775807;omega⟩
 |2,_=>exact ⟨by show -9223372036854775808≤(c:Int);omega,by show (c:Int)≤9223372036854775807;omega⟩
 |3,_=>exact hy
theorem h9 {n:Nat}(h:n≤2000):qS (n:Int):=⟨by omega,by omega⟩
theorem Lh {i:Nat}: (gt txt9 i).length≤4:=by
 rcases i with _|_|_|_|_|_|_|_|_|i
 all_goals first|decide|exact Nat.zero_le _
theorem Li {i:Nat}: (gt tit4 i).length≤4:=by
 rcases i with _|_|_|_|i
 all_goals first|decide|exact Nat.zero_le _
theorem Lj {N:Nat}{p:aI}(h:PZ N p)(how y:Int)(hy: -9223372036854775808≤y∧y≤9223372036854775807):PZ (N+100) (eR p how y):=by
 obtain ⟨h1,h2,h3,h4,h5⟩:=h
 have a4:=cJ y (m:=4) (by decide)
 have a8:=cJ y (m:=8) (by decide)
 unfold eR
 generalize aa how 10=n
 rcases n with _|_|_|_|_|_|_|_|_|n
 . exact ⟨by show p.2.2.2.1.length≤_;omega,by show p.2.2.2.2.length≤_;omega,rQ a4 (by decide) (by decide) hy,h4,h5⟩
 . exact ⟨by show p.2.2.2.1.length≤_;omega,by show p.2.2.2.2.length≤_;omega,h3,rQ a4 (by decide) (by decide) hy,h5⟩
 . exact ⟨by show p.2.2.2.1.length≤_;omega,by show p.2.2.2.2.length≤_;omega,h3,h4,rQ a4 (by decide) (by decide) hy⟩
 . exact ⟨by show p.2.2.2.1.length≤_;omega,by show p.2.2.2.2.length≤_;omega,h3,h4,h5⟩
 . exact ⟨by show p.2.2.2.1.length≤_;omega,by show p.2.2.2.2.length≤_;omega,h3,h4,h5⟩
 . exact ⟨by show (gt txt9 _).length≤_;have:=Lh (i:=aa y 9);omega,by show p.2.2.2.2.length≤_;omega,h3,h4,h5⟩
 . exact ⟨by show p.2.2.2.1.length≤_;omega,by show (p.2.2.2.2++[_]).length≤_;rw[List.length_append,List.length_singleton];omega,h3,h4,h5⟩
 . exact ⟨by show p.2.2.2.1.length≤_;omega,by show 1≤_;omega,h3,h4,h5⟩
 . exact ⟨by show p.2.2.2.1.length≤_;omega,by show p.2.2.2.2.length≤_;omega,h9 (by omega),h9 (by omega),h9 (by omega)⟩
 . exact ⟨by show (p.2.2.2.1++[_,_]).length≤_;rw[List.length_append];show _+2≤_;omega,by show p.2.2.2.2.length≤_;omega,h3,h4,h5⟩
theorem xG (l:List Int)(a:Nat)(id:ID)(h:c9 id):PZ 100 (aY l a id):=by
 have h1:=kJ l a (gI l a)
 have h2:=nW l a
 have h3:=mF l a (gI l a)
 exact ⟨by show (gX l a (gI l a)).length≤_;omega,by show (jr l a (gI l a)).length≤_;omega,h⟩
theorem Ql {N:Nat}:AZ N ([],[]):=⟨Nat.zero_le _,Nat.zero_le _,fun p hp=>by cases hp⟩
theorem xH (n:Nat)(t:List UInt8):iL (List.replicate n (t,[])) = []:=by
 unfold iL
 induction n with
 |zero=>rfl
 |succ n ih=>rw[List.replicate_succ,List.flatMap_cons,ih];rfl
theorem xI (n:Nat): (List.replicate n ([]:ct)).flatMap iL= []:=by
 induction n with
 |zero=>rfl
 |succ n ih=>rw[List.replicate_succ,List.flatMap_cons,ih];rfl
theorem vB (n:Nat): (List.replicate n ([]:ct)).flatten= []:=by
 induction n with
 |zero=>rfl
 |succ n ih=>rw[List.replicate_succ,List.flatten_cons,ih];rfl
theorem Qm {N:Nat}{w:ah}(h:WZ N w){v b:Nat}(hv:v< w.length)(hb:b< (gt w v).length)(y:Int)(hy: -9223372036854775808≤y∧y≤9223372036854775807)(n:Nat):WZ (3*N+300) (Hg w v b y n):=by
 have hV:=bz w v hv
 have hA:=bz _ b hb
 have q1:=(h.v _ hV).1
 have q2:=h.alv hV
 have q3:=(h.v _ hV).2 _ hA
 have hL:=q3.2.1
 have ht:=q3.1
 have n1:=h.n
 have n2:=h.al
 have n3:=h.ar
 rcases n with _|_|_|_|_|_|_|n
 . have a9:=cJ y (m:=9) (by decide)
   refine ⟨?_,?_,?_,fun V hV'=>?_⟩
   . show (w++List.replicate _ []).length≤_
     rw[List.length_append,List.length_replicate];omega
   . show ((w++List.replicate _ []).flatMap iL).length≤_
     rw[List.flatMap_append,xI,List.append_nil];omega
   . show (w++List.replicate _ []).flatten.length≤_
     rw[List.flatten_append,vB,List.append_nil];omega
   . rcases List.mem_append.1 hV' with hV'|hV'
     . exact ⟨by have:=(h.v V hV').1;omega,fun A hA=>((h.v V hV').2 A hA).mono (by omega)⟩
     . rw[List.eq_of_mem_replicate hV']
       exact ⟨Nat.zero_le _,fun A hA=>by cases hA⟩
 . exact h.setL hv hb _ _ (by have:=Li (i:=aa (y.tdiv ((4:Nat):Int)) 4);omega) (by omega) fun p hp=>(q3.2.2 p hp).mono (by omega)
 . refine h.set v _ (by rw[List.length_append,List.length_singleton];omega) ?_ fun A hA'=>?_
   . show (iL (gt w v++[gt (gt w v) b])).length≤_
     have: (iL (gt w v++[gt (gt w v) b])).length= (iL (gt w v)).length+(gt (gt w v) b).2.length:=by
      unfold iL;rw[List.flatMap_append,List.length_append];simp
     omega
   . rcases List.mem_append.1 hA' with hA'|hA'
     . exact ((h.v _ hV).2 A hA').mono (by omega)
     . rw[List.mem_singleton.1 hA'];exact q3.mono (by omega)
 . show WZ _ (if _ then _ else _)
   split
   . exact h.setL hv hb _ _ (by omega) (by rw[List.length_drop];omega) fun p hp=>(q3.2.2 p (List.mem_of_mem_drop hp)).mono (by omega)
   . exact h.mono (by omega)
 . show WZ _ (if _ then _ else _)
   split
   . rename_i h1
     refine h.setL hv hb _ _ (by omega) (by rw[List.length_set,List.length_set];omega) fun p hp=>?_
     rcases List.mem_or_eq_of_mem_set hp with hp|rfl
     . rcases List.mem_or_eq_of_mem_set hp with hp|rfl
       . exact (q3.2.2 p hp).mono (by omega)
       . exact (q3.2.2 _ (bz _ _ (by omega))).mono (by omega)
     . exact (q3.2.2 _ (bz _ _ (by omega))).mono (by omega)
   . exact h.mono (by omega)
 . have a3:=cJ (y.tdiv ((4:Nat):Int)) (m:=3) (by decide)
   refine h.set v _ (by rw[List.length_append,List.length_replicate];omega) ?_ fun A hA'=>?_
   . show (iL (gt w v++List.replicate _ _)).length≤_
     have:∀k,(iL (gt w v++List.replicate k ([120],[]))).length= (iL (gt w v)).length:=fun k=>by
      have e:=xH k [120]
      unfold iL at e ⊢
      rw[List.flatMap_append,e,List.append_nil]
     rw[this];omega
   . rcases List.mem_append.1 hA' with hA'|hA'
     . exact ((h.v _ hV).2 A hA').mono (by omega)
     . rw[List.eq_of_mem_replicate hA']
       exact ⟨by show 1≤_;omega,Nat.zero_le _,fun p hp=>by cases hp⟩
 . exact h.set v _ (Nat.zero_le _) (Nat.zero_le _) fun A hA=>by cases hA
 . refine h.setL hv hb _ _ (by omega) (by rw[List.length_append,List.length_singleton];omega) fun p hp=>?_
   have a12:=cJ y (m:=12) (by decide)
   rcases List.mem_append.1 hp with hp|hp
   . exact (q3.2.2 p hp).mono (by omega)
   . rw[List.mem_singleton.1 hp]
     exact (xG _ _ _ ⟨h9 (n:=0) (by decide),h9 (by omega),h9 (n:=0) (by decide)⟩).mono (by omega)
theorem vE {N:Nat}{w:ah}(h:WZ N w)(how y:Int)(hy: -9223372036854775808≤y∧y≤9223372036854775807):WZ (3*N+300) (ao w how y):=by
 unfold ao
 split
 . rename_i hA
   obtain ⟨v,a,j,hf,hv,ha,hj⟩:=xE (cJ y hA.1)
   rw[hf]
   have q3:=(h.v _ (bz w v hv)).2 _ (bz _ a ha)
   have hL:=q3.2.1
   have ht:=q3.1
   show WZ _ (Go.Sx.setL w v a ((gt (gt w v) a).2.set j (eR (gt (gt (gt w v) a).2 j) (how.tdiv ((2:Nat):Int)) (y.tdiv ((8:Nat):Int)))))
   refine h.setL hv ha _ _ (by omega) (by rw[List.length_set];omega) fun p hp=>?_
   rcases List.mem_or_eq_of_mem_set hp with hp|rfl
   . exact (q3.2.2 p hp).mono (by omega)
   . exact Lj (q3.2.2 _ (bz _ _ hj)) _ _ (iB y 8 hy)
 . split
   . have a10:=cJ y (m:=10) (by decide)
     refine ⟨by rw[List.length_replicate];omega,by rw[xI];exact Nat.zero_le _,by rw[vB];exact Nat.zero_le _,fun V hV=>?_⟩
     rw[List.eq_of_mem_replicate hV]
     exact ⟨Nat.zero_le _,fun A hA=>by cases hA⟩
   . rename_i h0
     have hv:=cJ y (m:=w.length) (by omega)
     split
     . have a66:=cJ y (m:=66) (by decide)
       refine h.set _ _ (by rw[List.length_replicate];omega) (by rw[xH];exact Nat.zero_le _) fun A hA=>?_
       rw[List.eq_of_mem_replicate hA];exact Ql
     . rename_i h1
       exact Qm h hv (by omega) y hy _
theorem Cw (w:ah):aZ w=w.flatMap iL:=vg w
theorem WZ.wg {N:Nat}{w:ah}(h:WZ N w)(hN:N≤100000):WG w:=by
 have h1:=h.n
 have h2:=h.al
 have h3:=h.ar
 refine ⟨by omega,by rw[Cw];omega,?_,fun V hV=>⟨by have:=(h.v V hV).1;omega,fun A hA=>?_⟩⟩
 . unfold nA;rw[List.take_length];omega
 . have q:=(h.v V hV).2 A hA
   exact ⟨by have:=q.1;omega,by have:=q.2.1;omega,fun p hp=>⟨by have:=(q.2.2 p hp).1;omega,by have:=(q.2.2 p hp).2.1;omega,(q.2.2 p hp).2.2⟩⟩
theorem Cy (l:List Int)(n:Nat):∀j,n+j≤8→∀p,p∈fB l n j→PZ 100 p
 |0,_,p,hp=>by cases hp
 |j+1,h,p,hp=>by
  rw[fB,List.mem_append,List.mem_singleton] at hp
  rcases hp with hp|rfl
  . exact Cy l n j (by omega) p hp
  . have:=xG l (9+4*(n+j)) (idk (n+j)) ⟨h9 (n:=0) (by decide),h9 (by omega),h9 (n:=0) (by decide)⟩
    unfold PZ at this ⊢
    rw[yX,He];exact this
theorem Cz (l:List Int)(i n:Nat)(h:n≤8):∀k,∀A,A∈ (d8 l i n k).1→AZ 1000 A
 |0,A,hA=>by cases hA
 |k+1,A,hA=>by
  simp only[d8] at hA
  rw[List.mem_append,List.mem_singleton] at hA
  rcases hA with hA|rfl
  . exact Cz l i n h k A hA
  . have h1:=lV l i n h k
    have h2:j6 l i k (d8 l i n k).2=min (1+cK l (5+2*i+k) 3) (8 - (d8 l i n k).2):=rfl
    refine ⟨?_,?_,?_⟩
    . have:=(jq l (3+i+k)).2.1;show (fR l (3+i+k)).length≤_;omega
    . show (fB _ _ _).length≤_;rw[kn];omega
    . exact fun p hp=>(Cy l _ _ (by omega) p hp).mono (by decide)
theorem CA (l:List Int):∀i,∀V,V∈ (el l i).1→V.length≤2∧∀A,A∈V→AZ 1000 A
 |0,V,hV=>by cases hV
 |i+1,V,hV=>by
  simp only[el] at hV
  rw[List.mem_append,List.mem_singleton] at hV
  rcases hV with hV|rfl
  . exact CA l i V hV
  . refine ⟨?_,Cz l i _ (lW l i) _⟩
    rw[lU]
    have:=er l (1+i) (m:=2) (by decide);omega
theorem qN (l:List Int):WZ 1000 (ib l):=by
 have h1:=xu l
 have h2:=er l 0 (m:=4) (by decide)
 have h3:=B8 l
 rw[Cw] at h3
 refine ⟨by omega,by omega,?_,fun V hV=>?_⟩
 . have:=Cc (w:=ib l) (fun V hV=>(Cb l _ V hV).1) (ib l).length (Nat.le_refl _)
   unfold nA at this
   rw[List.take_length] at this
   omega
 . have:=CA l _ V hV
   exact ⟨by omega,this.2⟩
end Go.Sx
namespace Go.Sx
open Go.RowKit Go.Proofs
theorem rR {n:Nat}{xs xs':List C}(hl:xs.length=xs'.length)(hc:∀ (k:Nat) (x x':C),xs[k]? =some x→xs'[k]? =some x'→CLe x x'):CLe (.sl .full n xs) (.sl .full n xs'):=by
 refine ⟨fun G v h=>?_,fun s n' ys e=>by cases e⟩
 simp only[Rep] at h ⊢
 obtain ⟨a,cap,h1,h2,h3,h4,h5⟩:=h
 refine ⟨a,cap,h1,h2,h3,h4,?_⟩
 rcases h5 with h5| ⟨blk,off,h5,h6⟩
 . subst h5
   left
   exact List.eq_nil_of_length_eq_zero (by simpa using hl.symm)
 . right
   refine ⟨blk,off,h5,RepK.of_get fun i x' hx'=>?_⟩
   have hi:=(List.getElem?_eq_some_iff.1 hx').1
   obtain ⟨u,q1,q2,q3⟩:=h6.get i _ (List.getElem?_eq_getElem (l:=xs) (i:=i) (by omega))
   exact ⟨u,q1,q2,(hc i _ _ (List.getElem?_eq_getElem (by omega)) hx').1 _ _ q3⟩
def k8 (w:ah):List C:=[sl vC .no w]
instance:Sca k8 (sl vC .no):=⟨fun _=>rfl,fun _=>rfl,fun _=>rfl,fun _ _=>rfl⟩
instance:Nrf k8:=⟨fun k x=>by simp only[k8,noRefs,ax,Bool.and_self]⟩
theorem CB (a b c:ah):CLe (.sl .full 4 [sl vC .no a,sl vC .no b,sl vC .no c,.val (.slice none 0 0)]) (sl k8 .full [a,b,c,[]]):=by
 refine rR (xs:=[sl vC .no a,sl vC .no b,sl vC .no c,.val (.slice none 0 0)]) (xs':=cl k8 [a,b,c,[]]) rfl fun k x x' h1 h2=>?_
 rcases k with _|_|_|_|k
 . cases h1;cases h2;exact CLe.refl _
 . cases h1;cases h2;exact CLe.refl _
 . cases h1;cases h2;exact CLe.refl _
 . cases h1;cases h2;exact CLe.nil _
 . simp at h1
theorem Qp (y:Nat)(a b c:ah)(u:TypeDesc):gN (some ⟨u,1,y,[.slice none 0 0]⟩) 4 [(0,.agg [sl vC .no a]),(1,.agg [sl vC .no b]),(2,.agg [sl vC .no c]),(3,.agg [.val (.slice none 0 0)])] =some (vp (.sl .full 4 [sl vC .no a,sl vC .no b,sl vC .no c,.val (.slice none 0 0)])):=rfl
def gg (l:List Int)(how y:Int):List ah:=[ib l,ao (ib l) how y,ao (ao (ib l) how y) y how,[]]
attribute [go_sem] Qp
end Go.Sx
namespace Go.Sx
open Go.RowKit Go.Proofs
set_option maxRecDepth 100000
set_option maxHeartbeats 8000000
theorem vF {p:Prop}(e:p:=by intro KZ hZ;simp -implicitDefEqProofs (maxSteps:=2000000) (disch:=first|omega| (simp only[go_sem,lA,lD,lT] <;>omega) |decide) only[go_sem,↓reduceIte,Nat.reduceEqDiff,reduceCtorEq,Nat.reduceLT,Nat.reduceBEq,Nat.reduceAdd,e18,e51,e51b,hy];with_reducible exact hZ):p:=e
theorem Qn {p:Prop}(e:p:=by intro KZ hZ;simp -implicitDefEqProofs (maxSteps:=2000000) (disch:=first|omega| (simp only[go_sem,lA,lD,lT] <;>omega) |decide) only[go_sem,↓reduceIte,Nat.reduceEqDiff,reduceCtorEq,Nat.reduceLT,Nat.reduceBEq,Nat.reduceAdd,e18,e51,e51b,hy];with_reducible refine And.intro ?_ hZ;first|exact rfl|decide):p:=e
theorem Qo {p:Prop}(e:p:=by simp -implicitDefEqProofs (disch:=first|omega| (simp only[go_sem,lA,lD,lT] <;>omega) |decide) only[go_sem,↓reduceIte,Nat.reduceEqDiff,reduceCtorEq];all_goals (unfold gg;rw[h0,h1,h2])):p:=e
theorem Vr {gl:Nat→C}{M:Nat}{pu:Nat→List C→Option C}(hcx:CxOK (aD gl M pu))(h18:∀l:List Int,LI l→pu 18 [sl iC .no l] =some (.agg [sl vC .no (ib l)]))(h51:∀ (w:ah) (how y:Int),WG w→(-9223372036854775808≤how∧how≤9223372036854775807)→(-9223372036854775808≤y∧y≤9223372036854775807)→pu 51 [.agg [sl vC .no w],.val (.int .i64 how),.val (.int .i64 y)] =some (.agg [sl vC .no (ao w how y)]))(l:List Int)(how y:Int)(hl:LI l)(hho: (-9223372036854775808≤how∧how≤9223372036854775807))(hy0: (-9223372036854775808≤y∧y≤9223372036854775807)):FC Tryd.prog gl 11 [sl iC .no l,.val (.int .i64 how),.val (.int .i64 y)] [] (sl k8 .full (gg l how y)) []:=by
 replace hcx:=hcx.reN (M:=23)
 refine bI (cx:=aD gl 23 pu) (rs:=[.tmp 6]) rfl Tryd.func11 rfl rfl rfl (by simp only[List.length_cons,List.length_nil];decide) (by simp only[go_sem]) ?_
 simp only[cZ,go_sem]
 have hy:=True.intro
 have e18:=h18 l hl
 have g0:=(qN l).wg (by decide)
 have z1:=vE (qN l) how y hy0
 have g1:=z1.wg (by decide)
 have e51:=h51 _ how y g0 hho hy0
 have e51b:=h51 _ y how g1 hy0 hho
 obtain ⟨W0,h0⟩:∃W0,ib l=W0:=⟨_,rfl⟩
 rw[h0] at e18 e51 e51b
 obtain ⟨W1,h1⟩:∃W1,ao W0 how y=W1:=⟨_,rfl⟩
 rw[h1] at e51 e51b
 obtain ⟨W2,h2⟩:∃W2,ao W1 y how=W2:=⟨_,rfl⟩
 rw[h2] at e51b
 refine Tr.w hcx [] _ [] rfl rfl rfl ?_ vF
 refine Tr.w hcx [] _ [none] rfl rfl rfl ?_ vF
 refine Tr.w hcx [] _ [none] rfl rfl rfl ?_ vF
 refine fh hcx eG [1000022] _ [] rfl rfl rfl rfl ?_ Qn
 refine Tr.live [(6,sl k8 .full [W0,W1,W2,[]])] ?_ ?_
 exact ⟨CB _ _ _,trivial⟩
 exact Tr.ret Qo
end Go.Sx
namespace Go.Sx
open Go.RowKit Go.Proofs
set_option maxRecDepth 100000
set_option maxHeartbeats 8000000
end Go.Sx
namespace Go.Sx
open Go.RowKit Go.Proofs
set_option maxRecDepth 100000
theorem Qq:WG []:=⟨Nat.zero_le _,Nat.zero_le _,Nat.zero_le _,fun V hV=>by cases hV⟩
attribute [local irreducible] ao ib in
theorem Gv (l:List Int)(how y:Int)(hho: -9223372036854775808≤how∧how≤9223372036854775807)(hy0: -9223372036854775808≤y∧y≤9223372036854775807)(i:Nat)(hi:i< (gg l how y).length):WG (gt (gg l how y) i):=by
 have z1:=vE (qN l) how y hy0
 have z2:=vE z1 y how hho
 match i,hi with
 |0,_=>exact (qN l).wg (by omega)
 |1,_=>exact z1.wg (by omega)
 |2,_=>exact z2.wg (by omega)
 |3,_=>exact Qq
 |i+4,h=>exact absurd h (by simp[gg])
theorem mH (l:List Int)(how y:Int): (gg l how y).length=4:=rfl
end Go.Sx
namespace Go.Sx
open Go.RowKit Go.Proofs
set_option maxRecDepth 100000
set_option maxHeartbeats 8000000
set_option maxRecDepth 100000
theorem Qr (l:List ah)(i:Nat)(h:i< l.length):fG ((cl k8 l).drop i) 0 1=some (.agg [sl vC .no (gt l i)]):=by
 have e: (cl k8 l).drop i=cl k8 (l.drop i):=by
  have:=ji (f:=k8) l i
  rw[Nat.mul_one] at this;exact this
 rw[e,List.drop_eq_getElem_cons h,cX]
 have:gt l i=l[i]:=by simp[gt,List.getD,List.getElem?_eq_getElem h]
 rw[this]
 rfl
attribute [go_sem high] Qr
end Go.Sx
namespace Go.Sx
open Go.RowKit Go.Proofs
theorem ST {gl:Nat→C}{M:Nat}{pu:Nat→List C→Option C}(hcx:CxOK (aD gl M pu))(h19:∀ (n:Int) (m:Nat),-9223372036854775808≤n∧n≤9223372036854775807∧0< m∧m≤9223372036854775807→pu 19 [.val (.int .i64 n),.val (nI m)] =some (.val (nI (aa n m))))(h21:∀ (l:List Int) (k:Nat) (id:ID),LI l→k≤900→pu 21 [sl iC .no l,.val (nI k),.agg (iD id)] =some (.agg (pC (aY l k id))))(h33:∀ (w:ah) (id:ID),WB w→pu 33 [.agg [sl vC .no w],.agg (iD id)] =some (.tup [.agg [.val (nI (dI w id).1.1),.val (nI (dI w id).1.2.1),.val (nI (dI w id).1.2.2)],.val (.bool (dI w id).2)]))(w:ah)(how y:Int)(hw:WG w)(hho: -9223372036854775808≤how∧how≤9223372036854775807)(hy0: -9223372036854775808≤y∧y≤9223372036854775807):FC Tryd.prog gl 51 [.agg [sl vC .no w],.val (.int .i64 how),.val (.int .i64 y)] [] (.agg [sl vC .no (ao w how y)]) []:=by
 exact Vq hcx h19 h21 h33 w how y hw hho hy0
end Go.Sx
namespace Go.Sx
open Go.RowKit Go.Proofs
set_option maxRecDepth 100000
set_option maxHeartbeats 8000000
set_option maxRecDepth 100000
theorem jU {p:Prop}(e:p:=by intro KZ hZ;simp -implicitDefEqProofs (disch:=first|omega| (simp only[go_sem,lA,lD,lT] <;>omega) |decide) only[go_sem,↓reduceIte,Nat.reduceEqDiff,reduceCtorEq,Nat.reduceLT,Nat.reduceBEq,Nat.reduceAdd,c1,c2,c3,c4,c5,c6,hy];with_reducible exact hZ):p:=e
theorem kO {p:Prop}(e:p:=by simp -implicitDefEqProofs (disch:=first|omega| (simp only[go_sem,lA,lD,lT] <;>omega) |decide) only[go_sem,↓reduceIte,Nat.reduceEqDiff,reduceCtorEq];all_goals (exact congrArg (fun z=>some (C.val (.bool z))) (by unfold gz;first| (symm;rw[decide_eq_true_iff];omega) | (symm;rw[decide_eq_false_iff_not];omega)))):p:=e
theorem Vt {gl:Nat→C}{M:Nat}{pu:Nat→List C→Option C}(hcx:CxOK (aD gl M pu))(x:ID):FC Tryd.prog gl 95 [.agg (iD x)] [] (.val (.bool (gz x))) []:=by
 replace hcx:=hcx.reN (M:=31)
 refine bI (cx:=aD gl 31 pu) (rs:=[.tmp 2]) rfl Tryd.func95 rfl rfl rfl (by simp only[List.length_cons,List.length_nil];decide) (by simp only[go_sem]) ?_
 simp only[cZ,go_sem]
 have c1:=True.intro
 have c2:=True.intro
 have c3:=True.intro
 have c4:=True.intro
 have c5:=True.intro
 have c6:=True.intro
 have hy:=True.intro
 refine Tr.w hcx [] _ [none] rfl rfl rfl ?_ jU
 refine Tr.k [1] ?_
 by_cases c1: ((0:Nat):Int)≤x.1
 ·
  have c1o:=c1
  replace c1:=eq_true c1
  by_cases c2:x.1< ((6:Nat):Int)
  ·
   have c2o:=c2
   replace c2:=eq_true c2
   by_cases c3: ((0:Nat):Int)≤x.2.1
   ·
    have c3o:=c3
    replace c3:=eq_true c3
    by_cases c4:x.2.1< ((64:Nat):Int)
    ·
     have c4o:=c4
     replace c4:=eq_true c4
     by_cases c5: ((0:Nat):Int)≤x.2.2
     ·
      have c5o:=c5
      replace c5:=eq_true c5
      by_cases c6:x.2.2< ((1024:Nat):Int)
      ·
       have c6o:=c6
       replace c6:=eq_true c6
       skip
       refine Tr.w hcx [1000030] [some 3,some 4,some 5,some 6,some 7,some 8,some 9,some 10,some 11,some 12,some 13,some 14,some 15,some 16,some 17,some 18,some 19,some 20,some 21,some 22,some 23,some 24,some 25,some 26,some 27,some 28,some 29,some 30,some 2] [] rfl rfl rfl ?_ jU
       refine Tr.k [2] ?_
       exact Tr.ret kO
      have c6o:=c6
      replace c6:=eq_false c6
      skip
      refine Tr.w hcx [1000030] [some 3,some 4,some 5,some 6,some 7,some 8,some 9,some 10,some 11,some 12,some 13,some 14,some 15,some 16,some 17,some 18,some 19,some 20,some 21,some 22,some 23,some 24,some 25,some 26,some 27,some 28,some 29,some 30,some 2] [] rfl rfl rfl ?_ jU
      refine Tr.k [2] ?_
      exact Tr.ret kO
     have c5o:=c5
     replace c5:=eq_false c5
     have c6:=True.intro
     refine Tr.w hcx [1000030] [some 3,some 4,some 5,some 6,some 7,some 8,some 9,some 10,some 11,some 12,some 13,some 14,some 15,some 16,some 17,some 18,some 19,some 20,some 21,some 22,some 23,some 24,some 25,some 26,some 27,some 28,some 29,some 30,some 2] [] rfl rfl rfl ?_ jU
     refine Tr.k [2] ?_
     exact Tr.ret kO
    have c4o:=c4
    replace c4:=eq_false c4
    have c5:=True.intro
    have c6:=True.intro
    refine Tr.w hcx [1000030] [some 3,some 4,some 5,some 6,some 7,some 8,some 9,some 10,some 11,some 12,some 13,some 14,some 15,some 16,some 17,some 18,some 19,some 20,some 21,some 22,some 23,some 24,some 25,some 26,some 27,some 28,some 29,some 30,some 2] [] rfl rfl rfl ?_ jU
    refine Tr.k [2] ?_
    exact Tr.ret kO
   have c3o:=c3
   replace c3:=eq_false c3
   have c4:=True.intro
   have c5:=True.intro
   have c6:=True.intro
   refine Tr.w hcx [1000030] [some 3,some 4,some 5,some 6,some 7,some 8,some 9,some 10,some 11,some 12,some 13,some 14,some 15,some 16,some 17,some 18,some 19,some 20,some 21,some 22,some 23,some 24,some 25,some 26,some 27,some 28,some 29,some 30,some 2] [] rfl rfl rfl ?_ jU
   refine Tr.k [2] ?_
   exact Tr.ret kO
  have c2o:=c2
  replace c2:=eq_false c2
  have c3:=True.intro
  have c4:=True.intro
  have c5:=True.intro
  have c6:=True.intro
  refine Tr.w hcx [1000030] [some 3,some 4,some 5,some 6,some 7,some 8,some 9,some 10,some 11,some 12,some 13,some 14,some 15,some 16,some 17,some 18,some 19,some 20,some 21,some 22,some 23,some 24,some 25,some 26,some 27,some 28,some 29,some 30,some 2] [] rfl rfl rfl ?_ jU
  refine Tr.k [2] ?_
  exact Tr.ret kO
 have c1o:=c1
 replace c1:=eq_false c1
 have c2:=True.intro
 have c3:=True.intro
 have c4:=True.intro
 have c5:=True.intro
 have c6:=True.intro
 refine Tr.w hcx [1000030] [some 3,some 4,some 5,some 6,some 7,some 8,some 9,some 10,some 11,some 12,some 13,some 14,some 15,some 16,some 17,some 18,some 19,some 20,some 21,some 22,some 23,some 24,some 25,some 26,some 27,some 28,some 29,some 30,some 2] [] rfl rfl rfl ?_ jU
 refine Tr.k [2] ?_
 exact Tr.ret kO
theorem Qt {p:Prop}(e:p:=by intro KZ hZ;simp -implicitDefEqProofs (maxSteps:=2000000) (disch:=first|omega| (simp only[go_sem,lA,lD,lT] <;>omega) |decide) only[go_sem,↓reduceIte,Nat.reduceEqDiff,reduceCtorEq,Nat.reduceLT,Nat.reduceBEq,Nat.reduceAdd,h95,h67,e60,b2,hy];with_reducible exact hZ):p:=e
theorem CD {p:Prop}(e:p:=by intro KZ hZ;simp -implicitDefEqProofs (maxSteps:=2000000) (disch:=first|omega| (simp only[go_sem,lA,lD,lT] <;>omega) |decide) only[go_sem,↓reduceIte,Nat.reduceEqDiff,reduceCtorEq,Nat.reduceLT,Nat.reduceBEq,Nat.reduceAdd,h95,h67,e60,b2,hy];with_reducible refine And.intro ?_ hZ;first|exact rfl|decide):p:=e
theorem CE {p:Prop}(e:p:=by simp -implicitDefEqProofs (disch:=first|omega| (simp only[go_sem,lA,lD,lT] <;>omega) |decide) only[go_sem,↓reduceIte,Nat.reduceEqDiff,reduceCtorEq];all_goals (simp[jf,b2])):p:=e
theorem Vu {gl:Nat→C}{M:Nat}{pu:Nat→List C→Option C}(hcx:CxOK (aD gl M pu))(h95:∀x:ID,pu 95 [.agg (iD x)] =some (.val (.bool (gz x))))(h67:pu 67 [] =some (.agg [.val (.int .i64 (-1)),.val (nI 0),.val (nI 0)]))(h60:∀a b:ID,pu 60 [.agg (iD a),.agg (iD b)] =some (.val (.bool (decide (a=b)))))(x:ID):FC Tryd.prog gl 98 [.agg (iD x)] [] (.val (.bool (jf x))) []:=by
 replace hcx:=hcx.reN (M:=10)
 refine bI (cx:=aD gl 10 pu) (rs:=[.tmp 2]) rfl Tryd.func98 rfl rfl rfl (by simp only[List.length_cons,List.length_nil];decide) (by simp only[go_sem]) ?_
 simp only[cZ,go_sem]
 have b2:=True.intro
 have hy:=True.intro
 have e60:pu 60 [.agg (iD x),.agg [.val (.int .i64 (-1)),.val (nI 0),.val (nI 0)]] =some (.val (.bool (decide (x= (-1,0,0))))):=h60 x (-1,0,0)
 refine Tr.w hcx [] _ [none] rfl rfl rfl ?_ Qt
 by_cases b2:gz x=true
 ·
  skip
  refine fh hcx eG [1000009] [some 3,some 4,some 5,some 6,some 7,some 8,some 9,some 2] [] rfl rfl rfl rfl ?_ CD
  exact Tr.ret CE
 replace b2:=(Bool.not_eq_true _).mp b2
 refine fh hcx eG [1000009] [some 3,some 4,some 5,some 6,some 7,some 8,some 9,some 2] [] rfl rfl rfl rfl ?_ CD
 exact Tr.ret CE
theorem vH {p:Prop}(e:p:=by intro KZ hZ;simp -implicitDefEqProofs (disch:=first|omega| (simp only[go_sem,lA,lD,lT,hm] <;>omega) |decide) only[go_sem,↓reduceIte,Nat.reduceEqDiff,reduceCtorEq,Nat.reduceLT,Nat.reduceBEq,Nat.reduceAdd,e96,e97,a5,hy];with_reducible exact hZ):p:=e
theorem CF {p:Prop}(e:p:=by simp -implicitDefEqProofs (disch:=first|omega| (simp only[go_sem,lA,lD,lT,hm] <;>omega) |decide) only[go_sem,↓reduceIte,Nat.reduceEqDiff,reduceCtorEq];all_goals (first|simp[fP,a5o] | (unfold fP;rw[decide_eq_true a5o];rfl) | (unfold fP;rw[decide_eq_false a5o];rfl))):p:=e
theorem Vv {gl:Nat→C}{M:Nat}{pu:Nat→List C→Option C}(hcx:CxOK (aD gl M pu))(h96:∀s:List UInt8,s.length≤1000000→pu 96 [.val (str s)] =some (.val (nI (cC s))))(h97:∀s:List UInt8,s.length≤1000000→pu 97 [.val (str s)] =some (sl nC (.own 1) (cG s)))(s:List UInt8)(hs:s.length≤1000000):FC Tryd.prog gl 58 [.val (str s)] [] (.val (.bool (fP s))) []:=by
 replace hcx:=hcx.reN (M:=12)
 refine bI (cx:=aD gl 12 pu) (rs:=[.tmp 2]) rfl Tryd.func58 rfl rfl rfl (by simp only[List.length_cons,List.length_nil];decide) (by simp only[go_sem]) ?_
 simp only[cZ,go_sem]
 have a5:=True.intro
 have hy:=True.intro
 have e96:=h96 _ hs
 have e97:=h97 _ hs
 have hm:=k6 s
 refine Tr.w hcx [] _ [] rfl rfl rfl ?_ vH
 by_cases a5:cC s=0
 ·
  have a5o:=a5
  replace a5:=eq_true a5
  refine Tr.w hcx [1000011] [some 3,some 4,some 5,some 6,some 7,some 8,some 9,some 10,some 11,some 2] [] rfl rfl rfl ?_ vH
  exact Tr.ret CF
 have a5o:=a5
 replace a5:=eq_false a5
 refine Tr.w hcx [1000011] [some 3,some 4,some 5,some 6,some 7,some 8,some 9,some 10,some 11,some 2] [] rfl rfl rfl ?_ vH
 exact Tr.ret CF
theorem en {p:Prop}(e:p:=by intro KZ hZ;simp -implicitDefEqProofs (disch:=first|omega| (simp only[go_sem,lA,lD,lT,hm] <;>omega) |decide) only[go_sem,↓reduceIte,Nat.reduceEqDiff,reduceCtorEq,Nat.reduceLT,Nat.reduceBEq,Nat.reduceAdd,h95,e96,e97,h98,a0,a1,a2,a3,a4,a5,a6,b2,hy];with_reducible exact hZ):p:=e
theorem CG {p:Prop}(e:p:=by intro KZ hZ;simp -implicitDefEqProofs (disch:=first|omega| (simp only[go_sem,lA,lD,lT,hm] <;>omega) |decide) only[go_sem,↓reduceIte,Nat.reduceEqDiff,reduceCtorEq,Nat.reduceLT,Nat.reduceBEq,Nat.reduceAdd,h95,e96,e97,h98,a0,a1,a2,a3,a4,a5,a6,b2,hy];with_reducible refine And.intro ?_ hZ;first|exact rfl|decide):p:=e
theorem jd {p:Prop}(e:p:=by simp -implicitDefEqProofs (disch:=first|omega| (simp only[go_sem,lA,lD,lT,hm] <;>omega) |decide) only[go_sem,↓reduceIte,Nat.reduceEqDiff,reduceCtorEq];all_goals (rw[hR])):p:=e
theorem Vw {gl:Nat→C}{M:Nat}{pu:Nat→List C→Option C}(hcx:CxOK (aD gl M pu))(h95:∀x:ID,pu 95 [.agg (iD x)] =some (.val (.bool (gz x))))(h96:∀s:List UInt8,s.length≤1000000→pu 96 [.val (str s)] =some (.val (nI (cC s))))(h97:∀s:List UInt8,s.length≤1000000→pu 97 [.val (str s)] =some (sl nC (.own 1) (cG s)))(h98:∀x:ID,pu 98 [.agg (iD x)] =some (.val (.bool (jf x))))(p:aI)(ht:p.2.2.2.1.length≤1000000)(hr:p.2.2.2.2.length≤1000000):FC Tryd.prog gl 57 [.agg (pC p)] [] (.val (.bool (dL p))) []:=by
 replace hcx:=hcx.reN (M:=56)
 refine bI (cx:=aD gl 56 pu) (rs:=[.tmp 2]) rfl Tryd.func57 rfl rfl rfl (by simp only[List.length_cons,List.length_nil];decide) (by simp only[go_sem]) ?_
 simp only[cZ,go_sem]
 have a0:=True.intro
 have a1:=True.intro
 have a2:=True.intro
 have a3:=True.intro
 have a4:=True.intro
 have a5:=True.intro
 have a6:=True.intro
 have b2:=True.intro
 have hy:=True.intro
 have e96:=h96 _ ht
 have e97:=h97 _ ht
 have hm:=k6 p.2.2.2.1
 refine Tr.w hcx [] _ [none] rfl rfl rfl ?_ en
 refine Tr.k [1] ?_
 refine ae fun K1 hK1=>?_
 by_cases a0:gz p.1=true
 ·
  skip
  by_cases a1:p.2.1< ((0:Nat):Int)
  ·
   have a1o:=a1
   replace a1:=eq_true a1
   have a2:=True.intro
   have a3:=True.intro
   have a4:=True.intro
   have a5:=True.intro
   refine Tr.w hcx [] [some 4,some 5,some 6,some 7,some 8,some 9,some 10,some 11,some 12,some 13,some 14,some 15,some 16,some 17,some 18,some 19,some 20,some 21,some 22,some 23,some 24,some 25,some 26,some 27,some 28,some 29,some 30,some 31,some 32,some 33] [] rfl rfl rfl ?_ en
   refine Tr.k [1,33] ?_
   refine bn rfl ?_
   have hR:=jR (p:=p) (by omega)
   refine Tr.w hcx [] _ [] rfl rfl rfl ?_ en
   exact Tr.ret jd
  have a1o:=a1
  replace a1:=eq_false a1
  by_cases a2: ((3:Nat):Int) < p.2.1
  ·
   have a2o:=a2
   replace a2:=eq_true a2
   have a3:=True.intro
   have a4:=True.intro
   have a5:=True.intro
   refine Tr.w hcx [] [some 4,some 5,some 6,some 7,some 8,some 9,some 10,some 11,some 12,some 13,some 14,some 15,some 16,some 17,some 18,some 19,some 20,some 21,some 22,some 23,some 24,some 25,some 26,some 27,some 28,some 29,some 30,some 31,some 32,some 33] [] rfl rfl rfl ?_ en
   refine Tr.k [1,33] ?_
   refine bn rfl ?_
   have hR:=jR (p:=p) (by omega)
   refine Tr.w hcx [] _ [] rfl rfl rfl ?_ en
   exact Tr.ret jd
  have a2o:=a2
  replace a2:=eq_false a2
  by_cases a3:p.2.2.1< ((0:Nat):Int)
  ·
   have a3o:=a3
   replace a3:=eq_true a3
   have a4:=True.intro
   have a5:=True.intro
   refine Tr.w hcx [] [some 4,some 5,some 6,some 7,some 8,some 9,some 10,some 11,some 12,some 13,some 14,some 15,some 16,some 17,some 18,some 19,some 20,some 21,some 22,some 23,some 24,some 25,some 26,some 27,some 28,some 29,some 30,some 31,some 32,some 33] [] rfl rfl rfl ?_ en
   refine Tr.k [1,33] ?_
   refine bn rfl ?_
   have hR:=jR (p:=p) (by omega)
   refine Tr.w hcx [] _ [] rfl rfl rfl ?_ en
   exact Tr.ret jd
  have a3o:=a3
  replace a3:=eq_false a3
  by_cases a4: ((3:Nat):Int) < p.2.2.1
  ·
   have a4o:=a4
   replace a4:=eq_true a4
   have a5:=True.intro
   refine Tr.w hcx [] [some 4,some 5,some 6,some 7,some 8,some 9,some 10,some 11,some 12,some 13,some 14,some 15,some 16,some 17,some 18,some 19,some 20,some 21,some 22,some 23,some 24,some 25,some 26,some 27,some 28,some 29,some 30,some 31,some 32,some 33] [] rfl rfl rfl ?_ en
   refine Tr.k [1,33] ?_
   refine bn rfl ?_
   have hR:=jR (p:=p) (by omega)
   refine Tr.w hcx [] _ [] rfl rfl rfl ?_ en
   exact Tr.ret jd
  have a4o:=a4
  replace a4:=eq_false a4
  by_cases a5:cC p.2.2.2.1=0
  ·
   have a5o:=a5
   replace a5:=eq_true a5
   skip
   refine Tr.w hcx [] [some 4,some 5,some 6,some 7,some 8,some 9,some 10,some 11,some 12,some 13,some 14,some 15,some 16,some 17,some 18,some 19,some 20,some 21,some 22,some 23,some 24,some 25,some 26,some 27,some 28,some 29,some 30,some 31,some 32,some 33] [] rfl rfl rfl ?_ en
   refine Tr.k [1,33] ?_
   refine aO rfl ?_
   refine Tr.skip ?_
   refine hK1 _ ?_
   refine ae fun K2 hK2=>?_
   by_cases a6: (cG p.2.2.2.1).length=p.2.2.2.2.length
   ·
    have a6o:=a6
    replace a6:=eq_true a6
    refine fh hcx eG [] _ [] rfl rfl rfl rfl ?_ CG
    refine aO rfl ?_
    refine Tr.skip ?_
    refine hK2 _ ?_
    refine ae fun K3 hK3=>?_
    refine Tr.w hcx [] _ [] rfl rfl rfl ?_ en
    refine Tr.k [1,3] ?_
    refine am ?_
    have h7:=BY (p:=p)
    have hT:=u0 (p:=p) a0 (by omega) a5o a6o
    refine aV (α:=Nat) (fun a=>[(1,?v1_1),(3,.val (nI a))]) (fun a=>[some (pC p)]) (fun a=>a≤p.2.2.2.2.length∧∀j,j< a→jf (gt p.2.2.2.2 j) =true) (fun a=>p.2.2.2.2.length - a) (0) ⟨Nat.zero_le _,fun j hj=>absurd hj (Nat.not_lt_zero j)⟩ ?le_1 ?hh_1 ?bd_1
    case hh_1=>exact rfl
    case le_1=>exact LT
    rintro i ⟨hi,hA⟩
    refine ae fun K4 hK4=>?_
    refine Tr.w hcx [] _ [] rfl rfl rfl ?_ en
    refine aw rfl (fun hc46=>?_) (fun hc46=>?_)
    ·
     refine Tr.skip ?_
     refine hK4 _ ?_
     refine ae fun K5 hK5=>?_
     refine am ?_
     by_cases b2:jf (gt p.2.2.2.2 i) =true
     ·
      skip
      refine Tr.w hcx [] _ [] rfl rfl rfl ?_ en
      refine aO rfl ?_
      refine Tr.skip ?_
      refine hK5 _ ?_
      refine Tr.v hcx [1000048] _ [] rfl rfl rfl ?_ en
      exact ⟨i+1,⟨⟨by omega,fun j hj=>(Nat.lt_or_eq_of_le (Nat.le_of_lt_succ hj)).elim (hA j) (fun e=>e▸b2)⟩,O1⟩,LT,rfl⟩
     replace b2:=(Bool.not_eq_true _).mp b2
     refine Tr.w hcx [] _ [] rfl rfl rfl ?_ en
     refine bn rfl ?_
     have hR:=h7 (gF hc46 b2)
     refine Tr.w hcx [] _ [] rfl rfl rfl ?_ en
     exact Tr.ret jd
    refine Tr.exit ?_
    refine hK3 _ ?_
    obtain rfl:i=p.2.2.2.2.length:=by omega
    have hR:=hT (iw hA)
    refine Tr.w hcx [] _ [] rfl rfl rfl ?_ en
    exact Tr.ret jd
   have a6o:=a6
   replace a6:=eq_false a6
   refine fh hcx eG [] _ [] rfl rfl rfl rfl ?_ CG
   refine bn rfl ?_
   have hR:=BX a6o
   refine Tr.w hcx [] _ [] rfl rfl rfl ?_ en
   exact Tr.ret jd
  have a5o:=a5
  replace a5:=eq_false a5
  skip
  refine Tr.w hcx [] [some 4,some 5,some 6,some 7,some 8,some 9,some 10,some 11,some 12,some 13,some 14,some 15,some 16,some 17,some 18,some 19,some 20,some 21,some 22,some 23,some 24,some 25,some 26,some 27,some 28,some 29,some 30,some 31,some 32,some 33] [] rfl rfl rfl ?_ en
  refine Tr.k [1,33] ?_
  refine bn rfl ?_
  have hR:=BW a5o
  refine Tr.w hcx [] _ [] rfl rfl rfl ?_ en
  exact Tr.ret jd
 replace a0:=(Bool.not_eq_true _).mp a0
 have a1:=True.intro
 have a2:=True.intro
 have a3:=True.intro
 have a4:=True.intro
 have a5:=True.intro
 refine Tr.w hcx [] [some 4,some 5,some 6,some 7,some 8,some 9,some 10,some 11,some 12,some 13,some 14,some 15,some 16,some 17,some 18,some 19,some 20,some 21,some 22,some 23,some 24,some 25,some 26,some 27,some 28,some 29,some 30,some 31,some 32,some 33] [] rfl rfl rfl ?_ en
 refine Tr.k [1,33] ?_
 refine bn rfl ?_
 have hR:=BV a0
 refine Tr.w hcx [] _ [] rfl rfl rfl ?_ en
 exact Tr.ret jd
end Go.Sx
namespace Go.Sx
open Go.RowKit Go.Proofs
set_option maxRecDepth 100000
set_option maxHeartbeats 8000000
set_option maxRecDepth 100000
def je (l:List aI)(i:Nat):Bool:= !(decide ((gt l i).2.1= ((1:Nat):Int)) && (decide (i=0) ||decide ((gt l (i - 1)).2.1= ((2:Nat):Int))))
def j7 (l:List aI):Bool:=(List.range l.length).all (je l)
theorem vI {l:List aI}(h:∀j,j< l.length→je l j=true):j7 l=true:=List.all_eq_true.2 fun j hj=>h j (List.mem_range.1 hj)
theorem CH {l:List aI}{i:Nat}(hi:i< l.length)(h:je l i=false):j7 l=false:=by
 rw[←Bool.not_eq_true]
 intro q
 have:=List.all_eq_true.1 q i (List.mem_range.2 hi)
 rw[h] at this;exact Bool.false_ne_true this
theorem Xc {w:ah}{i:Nat}(hi:i< w.length)(h:64< (gt w i).length):c7 w=true:=by
 have:w.any (fun V=>decide (64< V.length)) =true:=List.any_eq_true.2 ⟨_,bz w i hi,decide_eq_true h⟩
 unfold c7;rw[this];simp
theorem Xd {w:ah}(h:∀j,j< w.length→¬64< (gt w j).length):c7 w= (decide (8< w.length) ||decide (1024< (aZ w).length)):=by
 have:w.any (fun V=>decide (64< V.length)) =false:=by
  rw[←Bool.not_eq_true]
  intro q
  obtain ⟨V,hV,hq⟩:=List.any_eq_true.1 q
  obtain ⟨i,hi,rfl⟩:=B6 hV
  exact h i hi (of_decide_eq_true hq)
 unfold c7;rw[this];simp
theorem gA {p:Prop}(e:p:=by intro KZ hZ;simp -implicitDefEqProofs (maxSteps:=2000000) (disch:=first|omega| (simp only[go_sem,lA,lD,lT] <;>omega) |decide) only[go_sem,↓reduceIte,Nat.reduceEqDiff,reduceCtorEq,Nat.reduceLT,Nat.reduceBEq,Nat.reduceAdd,FL,e7,b1,b2,b3,hy];with_reducible exact hZ):p:=e
theorem vJ {p:Prop}(e:p:=by simp -implicitDefEqProofs (disch:=first|omega| (simp only[go_sem,lA,lD,lT] <;>omega) |decide) only[go_sem,↓reduceIte,Nat.reduceEqDiff,reduceCtorEq];all_goals (rw[hR])):p:=e
theorem Vx {gl:Nat→C}{M:Nat}{pu:Nat→List C→Option C}(hcx:CxOK (aD gl M pu))(l:List aI)(hl:l.length≤1000000):FC Tryd.prog gl 59 [sl pC .no l] [] (.val (.bool (j7 l))) []:=by
 replace hcx:=hcx.reN (M:=30)
 refine bI (cx:=aD gl 30 pu) (rs:=[.tmp 2]) rfl Tryd.func59 rfl rfl rfl (by simp only[List.length_cons,List.length_nil];decide) (by simp only[go_sem]) ?_
 simp only[cZ,go_sem]
 have b1:=True.intro
 have b2:=True.intro
 have b3:=True.intro
 have hy:=True.intro
 have FL:=Nat.max_zero
 have e7:=True.intro
 refine Tr.w hcx [] _ [] rfl rfl rfl ?_ gA
 refine ae fun K1 hK1=>?_
 refine Tr.w hcx [] _ [] rfl rfl rfl ?_ gA
 refine Tr.k [0,3] ?_
 refine am ?_
 refine aV (α:=Nat) (fun a=>[(0,?v0_1),(3,.val (nI a))]) (fun a=>[]) (fun a=>a≤l.length∧∀j,j< a→je l j=true) (fun a=>l.length - a) (0) ⟨Nat.zero_le _,fun j hj=>absurd hj (Nat.not_lt_zero j)⟩ ?le_1 ?hh_1 ?bd_1
 case hh_1=>exact rfl
 case le_1=>exact LT
 rintro i ⟨hi,hA⟩
 refine ae fun K2 hK2=>?_
 refine Tr.w hcx [] _ [] rfl rfl rfl ?_ gA
 refine aw rfl (fun hc7=>?_) (fun hc7=>?_)
 ·
  refine Tr.skip ?_
  refine hK2 _ ?_
  refine ae fun K3 hK3=>?_
  refine am ?_
  by_cases b1: (gt l i).2.1= ((1:Nat):Int)
  ·
   have b1o:=b1
   replace b1:=eq_true b1
   by_cases b2:i=0
   ·
    have b2o:=b2
    replace b2:=eq_true b2
    have b3:=True.intro
    refine Tr.w hcx [] [some 10,some 11,some 12,some 13,some 14,some 15,some 16,some 17,some 18,some 19,some 20,some 21,some 22,some 23,some 24,some 25,some 26,some 27,some 28,some 29] [] rfl rfl rfl ?_ gA
    refine bn rfl ?_
    have hP:je l i=false:=by unfold je;first| (rw[decide_eq_true b1o,decide_eq_true b2o];rfl) | (rw[decide_eq_true b1o,decide_eq_true b3o];simp)
    have hR:=CH hc7 hP
    refine Tr.w hcx [] _ [] rfl rfl rfl ?_ gA
    refine Tr.k [2] ?_
    exact Tr.ret vJ
   have b2o:=b2
   replace b2:=eq_false b2
   by_cases b3: (gt l (i - 1)).2.1= ((2:Nat):Int)
   ·
    have b3o:=b3
    replace b3:=eq_true b3
    have e7:aR Tryd.prog .sub 3 (.val (nI i)) (.val (nI 1)) =some (vp (.val (nI (i - 1)))):=(s4 _ _ _ _ (by omega)).trans (by rw[show ((i:Int) - ((1:Nat):Int)) = ((i - 1:Nat):Int) by omega];rfl)
    refine Tr.w hcx [] [some 10,some 11,some 12,some 13,some 14,some 15,some 16,some 17,some 18,some 19,some 20,some 21,some 22,some 23,some 24,some 25,some 26,some 27,some 28,some 29] [] rfl rfl rfl ?_ gA
    refine bn rfl ?_
    have hP:je l i=false:=by unfold je;first| (rw[decide_eq_true b1o,decide_eq_true b2o];rfl) | (rw[decide_eq_true b1o,decide_eq_true b3o];simp)
    have hR:=CH hc7 hP
    refine Tr.w hcx [] _ [] rfl rfl rfl ?_ gA
    refine Tr.k [2] ?_
    exact Tr.ret vJ
   have b3o:=b3
   replace b3:=eq_false b3
   have e7:aR Tryd.prog .sub 3 (.val (nI i)) (.val (nI 1)) =some (vp (.val (nI (i - 1)))):=(s4 _ _ _ _ (by omega)).trans (by rw[show ((i:Int) - ((1:Nat):Int)) = ((i - 1:Nat):Int) by omega];rfl)
   refine Tr.w hcx [] [some 10,some 11,some 12,some 13,some 14,some 15,some 16,some 17,some 18,some 19,some 20,some 21,some 22,some 23,some 24,some 25,some 26,some 27,some 28,some 29] [] rfl rfl rfl ?_ gA
   refine aO rfl ?_
   refine Tr.skip ?_
   refine hK3 _ ?_
   refine Tr.k [0,3] ?_
   have hP:je l i=true:=by unfold je;first| (rw[decide_eq_false b1o];rfl) | (rw[decide_eq_false b2o,decide_eq_false b3o];simp)
   refine Tr.v hcx [1000009] _ [] rfl rfl rfl ?_ gA
   exact ⟨i+1,⟨⟨by omega,fun j hj=>(Nat.lt_or_eq_of_le (Nat.le_of_lt_succ hj)).elim (hA j) (fun e=>e▸hP)⟩,O1⟩,LT,rfl⟩
  have b1o:=b1
  replace b1:=eq_false b1
  have b2:=True.intro
  have b3:=True.intro
  refine Tr.w hcx [] [some 10,some 11,some 12,some 13,some 14,some 15,some 16,some 17,some 18,some 19,some 20,some 21,some 22,some 23,some 24,some 25,some 26,some 27,some 28,some 29] [] rfl rfl rfl ?_ gA
  refine aO rfl ?_
  refine Tr.skip ?_
  refine hK3 _ ?_
  refine Tr.k [0,3] ?_
  have hP:je l i=true:=by unfold je;first| (rw[decide_eq_false b1o];rfl) | (rw[decide_eq_false b2o,decide_eq_false b3o];simp)
  refine Tr.v hcx [1000009] _ [] rfl rfl rfl ?_ gA
  exact ⟨i+1,⟨⟨by omega,fun j hj=>(Nat.lt_or_eq_of_le (Nat.le_of_lt_succ hj)).elim (hA j) (fun e=>e▸hP)⟩,O1⟩,LT,rfl⟩
 obtain rfl:i=l.length:=by omega
 have hR:=vI hA
 refine Tr.exit ?_
 refine hK1 _ ?_
 refine Tr.w hcx [] _ [] rfl rfl rfl ?_ gA
 exact Tr.ret vJ
theorem jV {p:Prop}(e:p:=by intro KZ hZ;simp -implicitDefEqProofs (maxSteps:=2000000) (disch:=first|omega| (simp only[go_sem,lA,lD,lT,hwl,hal,hVl] <;>omega) |decide) only[go_sem,↓reduceIte,Nat.reduceEqDiff,reduceCtorEq,Nat.reduceLT,Nat.reduceBEq,Nat.reduceAdd,e14,hVV,hR2,c1,hy];with_reducible exact hZ):p:=e
theorem vK {p:Prop}(e:p:=by simp -implicitDefEqProofs (disch:=first|omega| (simp only[go_sem,lA,lD,lT,hwl,hal,hVl] <;>omega) |decide) only[go_sem,↓reduceIte,Nat.reduceEqDiff,reduceCtorEq];all_goals (first| (rw[hR];done) | (rw[hR,decide_eq_true c1o];rfl) | (rw[hR,decide_eq_false c1o];simp) | (rw[hR];simp[c1o]))):p:=e
theorem Vy {gl:Nat→C}{M:Nat}{pu:Nat→List C→Option C}(hcx:CxOK (aD gl M pu))(h14:∀w:ah,WS w→pu 14 [.agg [sl vC .no w]] =some (sl pC (.own 7) (aZ w)))(w:ah)(hw:WG w):FC Tryd.prog gl 56 [.agg [sl vC .no w]] [] (.val (.bool (c7 w))) []:=by
 replace hcx:=hcx.reN (M:=29)
 refine bI (cx:=aD gl 29 pu) (rs:=[.tmp 2]) rfl Tryd.func56 rfl rfl rfl (by simp only[List.length_cons,List.length_nil];decide) (by simp only[go_sem]) ?_
 simp only[cZ,go_sem]
 have c1:=True.intro
 have hy:=True.intro
 have e14:=h14 w hw.ws
 have hwl:=hw.n
 have hal:=hw.al
 have hVV:=True.intro
 have hVl:=True.intro
 have hR2:=True.intro
 have c1:=True.intro
 refine Tr.w hcx [] _ [none] rfl rfl rfl ?_ jV
 refine ae fun K1 hK1=>?_
 refine Tr.w hcx [] _ [] rfl rfl rfl ?_ jV
 refine Tr.k [1,3] ?_
 refine am ?_
 refine aV (α:=Nat) (fun a=>[(1,?v1_1),(3,.val (nI a))]) (fun a=>[some [sl vC .no w]]) (fun a=>a≤w.length∧∀j,j< a→¬64< (gt w j).length) (fun a=>w.length - a) (0) ⟨Nat.zero_le _,fun j hj=>absurd hj (Nat.not_lt_zero j)⟩ ?le_1 ?hh_1 ?bd_1
 case hh_1=>exact rfl
 case le_1=>exact LT
 rintro i ⟨hi,hA⟩
 refine ae fun K2 hK2=>?_
 refine Tr.w hcx [] _ [] rfl rfl rfl ?_ jV
 refine aw rfl (fun hc8=>?_) (fun hc8=>?_)
 ·
  have hVl:=(hw.v _ (bz w i hc8)).1
  refine Tr.skip ?_
  refine hK2 _ ?_
  refine ae fun K3 hK3=>?_
  refine am ?_
  refine Tr.w hcx [] _ [] rfl rfl rfl ?_ jV
  refine aw rfl (fun hc18=>?_) (fun hc18=>?_)
  ·
   have hR:=Xc hc8 hc18
   refine Tr.w hcx [] _ [] rfl rfl rfl ?_ jV
   exact Tr.ret vK
  refine Tr.skip ?_
  refine hK3 _ ?_
  refine Tr.v hcx [1000010] _ [] rfl rfl rfl ?_ jV
  exact ⟨i+1,⟨⟨by omega,fun j hj=>(Nat.lt_or_eq_of_le (Nat.le_of_lt_succ hj)).elim (hA j) (fun e=>e▸hc18)⟩,O1⟩,LT,rfl⟩
 obtain rfl:i=w.length:=by omega
 have hR:=Xd hA
 refine Tr.exit ?_
 refine hK1 _ ?_
 by_cases c1:8< w.length
 ·
  have c1o:=c1
  replace c1:=eq_true c1
  refine Tr.w hcx [1000028] [some 19,some 20,some 21,some 22,some 23,some 24,some 25,some 26,some 27,some 28,some 2] [] rfl rfl rfl ?_ jV
  exact Tr.ret vK
 have c1o:=c1
 replace c1:=eq_false c1
 refine Tr.w hcx [1000028] [some 19,some 20,some 21,some 22,some 23,some 24,some 25,some 26,some 27,some 28,some 2] [] rfl rfl rfl ?_ jV
 exact Tr.ret vK
end Go.Sx
namespace Go.Sx
open Go.RowKit Go.Proofs
set_option maxRecDepth 100000
set_option maxHeartbeats 8000000
set_option maxRecDepth 100000
def rS (w:ah):Bool:=w.all fun V=>V.all fun A=>j7 A.2
def gx (w:ah):Nat:=if c7 w=true then 4 else if js w=false then 1 else if gY w=false then 1 else if ¬ (ey w).Nodup then 7 else if rS w=false then 8 else 0
def vL (w:ah)(v:Nat):Bool:=(w.take v).all fun V=>V.all fun A=>j7 A.2
def qO (w:ah)(v a:Nat):Bool:=vL w v && ((gt w v).take a).all fun A=>j7 A.2
theorem Hj {w:ah}{v a:Nat}(ha:a< (gt w v).length): (qO w v a && j7 (gt (gt w v) a).2) =qO w v (a+1):=by
 unfold qO
 rw[sc _ _ ha,List.all_append,Bool.and_assoc]
 simp
theorem SU {w:ah}{v:Nat}(hv:v< w.length):qO w v (gt w v).length=vL w (v+1):=by
 unfold qO vL
 rw[sc _ _ hv,List.all_append,List.take_length]
 simp
theorem SV (w:ah)(v:Nat):qO w v 0=vL w v:=by unfold qO;simp
theorem SW (w:ah):vL w w.length=rS w:=by unfold vL rS;rw[List.take_length]
theorem Vz {w:ah}{i:Nat}(hi:i< (aZ w).length)(h:dL (gt (aZ w) i) =false):js w=false:=gF hi h
theorem VA {w:ah}(h:∀j,j< (aZ w).length→dL (gt (aZ w) j) =true):js w=true:=iw h
theorem Qu {w:ah}{v a:Nat}(hv:v< w.length)(ha:a< (gt w v).length)(h:fP (gt (gt w v) a).1=false):gY w=false:=gF hv (gF ha h)
theorem Qv {w:ah}(h:∀v,v< w.length→∀a,a< (gt w v).length→fP (gt (gt w v) a).1=true):gY w=true:=iw fun v hv=>iw (h v hv)
theorem SX {w:ah}{i j:Nat}(hi:i< (aZ w).length)(hj:j< i)(h: (gt (aZ w) i).1= (gt (aZ w) j).1):¬ (ey w).Nodup:=fun hn=>by
 have hl: (ey w).length= (aZ w).length:=List.length_map ..
 have e:∀k,k< (aZ w).length→gt (ey w) k= (gt (aZ w) k).1:=fun k hk=>by simp[ey,gt,List.getD,List.getElem?_eq_getElem hk]
 exact Ga hn hj (by rw[hl];exact hi) (by rw[e _ (by omega),e _ hi,h])
theorem SY {w:ah}(h:∀i,i< (aZ w).length→∀j,j< i→¬ (gt (aZ w) i).1= (gt (aZ w) j).1): (ey w).Nodup:=by
 have hl: (ey w).length= (aZ w).length:=List.length_map ..
 have e:∀k (hk:k< (ey w).length),(ey w)[k] = (gt (aZ w) k).1:=fun k hk=>by
  have:k< (aZ w).length:=by omega
  simp[ey,gt,List.getD,List.getElem?_eq_getElem this]
 rw[List.nodup_iff_pairwise_ne,List.pairwise_iff_getElem]
 intro i j hi hj hij
 rw[e i hi,e j hj]
 exact fun q=>h j (by omega) i hij q.symm
theorem cE {p:Prop}(e:p:=by intro KZ hZ;simp -implicitDefEqProofs (maxSteps:=2000000) (disch:=first|omega| (simp only[go_sem,lA,lD,lT,hwl,hal,hvl,hll] <;>omega) |decide) only[go_sem,↓reduceIte,Nat.reduceEqDiff,reduceCtorEq,Nat.reduceLT,Nat.reduceBEq,Nat.reduceAdd,e56,e14,e57,e58,e59,h60,b0,b1,b2,b3,b4,hy];with_reducible exact hZ):p:=e
theorem Qw {p:Prop}(e:p:=by intro KZ hZ;simp -implicitDefEqProofs (maxSteps:=2000000) (disch:=first|omega| (simp only[go_sem,lA,lD,lT,hwl,hal,hvl,hll] <;>omega) |decide) only[go_sem,↓reduceIte,Nat.reduceEqDiff,reduceCtorEq,Nat.reduceLT,Nat.reduceBEq,Nat.reduceAdd,e56,e14,e57,e58,e59,h60,b0,b1,b2,b3,b4,hy];with_reducible refine And.intro ?_ hZ;first|exact rfl|decide):p:=e
theorem l4 {p:Prop}(e:p:=by simp -implicitDefEqProofs (disch:=first|omega| (simp only[go_sem,lA,lD,lT,hwl,hal,hvl,hll] <;>omega) |decide) only[go_sem,↓reduceIte,Nat.reduceEqDiff,reduceCtorEq];all_goals (rw[hR])):p:=e
theorem VB {gl:Nat→C}{M:Nat}{pu:Nat→List C→Option C}(hcx:CxOK (aD gl M pu))(h56:∀w:ah,WG w→pu 56 [.agg [sl vC .no w]] =some (.val (.bool (c7 w))))(h14:∀w:ah,WS w→pu 14 [.agg [sl vC .no w]] =some (sl pC (.own 7) (aZ w)))(h57:∀p:aI,p.2.2.2.1.length≤1000000→p.2.2.2.2.length≤1000000→pu 57 [.agg (pC p)] =some (.val (.bool (dL p))))(h58:∀s:List UInt8,s.length≤1000000→pu 58 [.val (str s)] =some (.val (.bool (fP s))))(h59:∀l:List aI,l.length≤1000000→pu 59 [sl pC .no l] =some (.val (.bool (j7 l))))(h60:∀a b:ID,pu 60 [.agg (iD a),.agg (iD b)] =some (.val (.bool (decide (a=b)))))(w:ah)(hw:WG w):FC Tryd.prog gl 13 [.agg [sl vC .no w]] [] (.val (nI (gx w))) []:=by
 replace hcx:=hcx.reN (M:=94)
 refine bI (cx:=aD gl 94 pu) (rs:=[.tmp 2]) rfl Tryd.func13 rfl rfl rfl (by simp only[List.length_cons,List.length_nil];decide) (by simp only[go_sem]) ?_
 simp only[cZ,go_sem]
 have b0:=True.intro
 have b1:=True.intro
 have b2:=True.intro
 have b3:=True.intro
 have b4:=True.intro
 have hy:=True.intro
 have e56:=h56 w hw
 have e14:=h14 w hw.ws
 have hwl:=hw.n
 have hal:=hw.al
 have hvl:=True.intro
 have hll:=True.intro
 have e57:=True.intro
 have e58:=True.intro
 have e59:=True.intro
 have b1:=True.intro
 have b2:=True.intro
 have b3:=True.intro
 have hPG:∀k,k< (aZ w).length→PG (gt (aZ w) k):=fun k hk=>by rw[eV] at hk;rw[jW w k hk];exact hw.pg hk
 refine Tr.w hcx [] _ [none] rfl rfl rfl ?_ cE
 refine ae fun K1 hK1=>?_
 by_cases b0:c7 w=true
 ·
  skip
  refine Tr.w hcx [] _ [] rfl rfl rfl ?_ cE
  refine bn rfl ?_
  have hR:gx w=4:=by unfold gx;rw[if_pos b0]
  refine Tr.w hcx [] _ [] rfl rfl rfl ?_ cE
  exact Tr.ret l4
 replace b0:=(Bool.not_eq_true _).mp b0
 refine Tr.w hcx [] _ [] rfl rfl rfl ?_ cE
 refine aO rfl ?_
 refine Tr.skip ?_
 refine hK1 _ ?_
 refine Tr.w hcx [1000013] _ [] rfl rfl rfl ?_ cE
 refine ae fun K2 hK2=>?_
 refine Tr.w hcx [] _ [] rfl rfl rfl ?_ cE
 refine Tr.k [1,3,4] ?_
 refine am ?_
 refine aV (α:=Nat) (fun a=>[(1,?v1_1),(3,?v3_1),(4,.val (nI a))]) (fun a=>[some [sl vC .no w]]) (fun a=>a≤(aZ w).length∧∀j,j< a→dL (gt (aZ w) j) =true) (fun a=>(aZ w).length - a) (0) ⟨Nat.zero_le _,fun j hj=>absurd hj (Nat.not_lt_zero j)⟩ ?le_1 ?hh_1 ?bd_1
 case hh_1=>exact rfl
 case le_1=>exact LT
 rintro i ⟨hi,hA⟩
 refine ae fun K3 hK3=>?_
 refine Tr.w hcx [] _ [] rfl rfl rfl ?_ cE
 refine aw rfl (fun hc17=>?_) (fun hc17=>?_)
 ·
  have e57:=h57 (gt (aZ w) i) (hPG i hc17).1 (hPG i hc17).2.1
  refine Tr.skip ?_
  refine hK3 _ ?_
  refine ae fun K4 hK4=>?_
  refine am ?_
  by_cases b1:dL (gt (aZ w) i) =true
  ·
   skip
   refine Tr.w hcx [] _ [] rfl rfl rfl ?_ cE
   refine aO rfl ?_
   refine Tr.skip ?_
   refine hK4 _ ?_
   refine Tr.v hcx [1000019] _ [] rfl rfl rfl ?_ cE
   exact ⟨i+1,⟨⟨by omega,(fun j hj=>(Nat.lt_or_eq_of_le (Nat.le_of_lt_succ hj)).elim (hA j) (fun e=>e▸b1))⟩,O1⟩,LT,rfl⟩
  replace b1:=(Bool.not_eq_true _).mp b1
  refine Tr.w hcx [] _ [] rfl rfl rfl ?_ cE
  refine bn rfl ?_
  have hR:gx w=1:=by unfold gx;rw[if_neg (by rw[b0];decide),if_pos (Vz hc17 b1)]
  refine Tr.w hcx [] _ [] rfl rfl rfl ?_ cE
  exact Tr.ret l4
 obtain rfl:i= (aZ w).length:=by omega
 have hO:=VA hA
 refine Tr.exit ?_
 refine hK2 _ ?_
 refine Tr.w hcx [] _ [] rfl rfl rfl ?_ cE
 refine ae fun K5 hK5=>?_
 refine Tr.w hcx [] _ [] rfl rfl rfl ?_ cE
 refine Tr.k [1,3,5,6] ?_
 refine am ?_
 refine aV (α:=Nat) (fun a=>[(1,?v1_2),(3,?v3_2),(5,.val (.bool (vL w a))),(6,.val (nI a))]) (fun a=>[some [sl vC .no w]]) (fun a=>a≤w.length∧∀v',v'< a→∀a',a'< (gt w v').length→fP (gt (gt w v') a').1=true) (fun a=>w.length - a) (0) ⟨Nat.zero_le _,fun j hj=>absurd hj (Nat.not_lt_zero j)⟩ ?le_2 ?hh_2 ?bd_2
 case hh_2=>exact rfl
 case le_2=>exact LT
 rintro v ⟨hv0,hB⟩
 refine ae fun K6 hK6=>?_
 refine Tr.w hcx [] _ [] rfl rfl rfl ?_ cE
 refine aw rfl (fun hc30=>?_) (fun hc30=>?_)
 ·
  have hvl:=(hw.v _ (bz w v hc30)).1
  refine Tr.skip ?_
  refine hK6 _ ?_
  refine ae fun K7 hK7=>?_
  refine am ?_
  refine Tr.w hcx [] _ [] rfl rfl rfl ?_ cE
  refine Tr.k [1,3,5,6,7] ?_
  refine am ?_
  rw[←SV w v]
  refine aV (α:=Nat) (fun a=>[(1,?v1_3),(3,?v3_3),(5,.val (.bool (qO w v a))),(6,?v6_3),(7,.val (nI a))]) (fun a=>[some [sl vC .no w]]) (fun a=>a≤(gt w v).length∧∀a',a'< a→fP (gt (gt w v) a').1=true) (fun a=>(gt w v).length - a) (0) ⟨Nat.zero_le _,fun j hj=>absurd hj (Nat.not_lt_zero j)⟩ ?le_3 ?hh_3 ?bd_3
  case hh_3=>exact rfl
  case le_3=>exact LT
  rintro k ⟨hk0,hD⟩
  refine ae fun K8 hK8=>?_
  refine Tr.w hcx [] _ [] rfl rfl rfl ?_ cE
  refine aw rfl (fun hc41=>?_) (fun hc41=>?_)
  ·
   have q3:=(hw.v _ (bz w v hc30)).2 _ (bz _ k hc41)
   have e58:=h58 (gt (gt w v) k).1 q3.1
   have e59:=h59 (gt (gt w v) k).2 (by have:=q3.2.1;omega)
   have hll:=q3.2.1
   refine Tr.skip ?_
   refine hK8 _ ?_
   refine ae fun K9 hK9=>?_
   refine am ?_
   refine ae fun K10 hK10=>?_
   by_cases b2:fP (gt (gt w v) k).1=true
   ·
    skip
    refine Tr.w hcx [] _ [] rfl rfl rfl ?_ cE
    refine aO rfl ?_
    refine Tr.skip ?_
    refine hK10 _ ?_
    refine Tr.k [1,3,5,6,7] ?_
    by_cases b3:qO w v k=true
    ·
     skip
     refine Tr.v hcx [1000069] [some 56,some 57,some 58,some 59,some 60,some 61,some 62,some 63,some 64,some 65,some 66,some 67,some 68,some 69,some 5] [] rfl rfl rfl ?_ cE
     refine hK9 _ ?_
     refine Tr.v hcx [1000043] _ [] rfl rfl rfl ?_ cE
     refine ⟨k+1,⟨⟨by omega,(fun j hj=>(Nat.lt_or_eq_of_le (Nat.le_of_lt_succ hj)).elim (hD j) (fun e=>e▸b2))⟩,O1⟩,?_,rfl⟩
     (simp only[bQ,bl,↓bF,↓reduceIte,Nat.reduceEqDiff,ba,br,bc,bu,bv,and_true,true_and];all_goals (repeat' first|exact CLe.refl _|exact True.intro| (refine bH ?_;first|rfl| (simp only[List.take_zero];done)) |exact cU (by omega) |exact cM (by omega) |exact cN (by omega) |exact cO (by omega) |with_reducible apply And.intro))
     all_goals first| (rw[←Hj hc41];first|exact CLe.refl _| (rw[b3];simp;exact CLe.refl _)) |exact CLe.refl _
    replace b3:=(Bool.not_eq_true _).mp b3
    refine Tr.v hcx [1000069] [some 56,some 57,some 58,some 59,some 60,some 61,some 62,some 63,some 64,some 65,some 66,some 67,some 68,some 69,some 5] [] rfl rfl rfl ?_ cE
    refine hK9 _ ?_
    refine Tr.v hcx [1000043] _ [] rfl rfl rfl ?_ cE
    refine ⟨k+1,⟨⟨by omega,(fun j hj=>(Nat.lt_or_eq_of_le (Nat.le_of_lt_succ hj)).elim (hD j) (fun e=>e▸b2))⟩,O1⟩,?_,rfl⟩
    (simp only[bQ,bl,↓bF,↓reduceIte,Nat.reduceEqDiff,ba,br,bc,bu,bv,and_true,true_and];all_goals (repeat' first|exact CLe.refl _|exact True.intro| (refine bH ?_;first|rfl| (simp only[List.take_zero];done)) |exact cU (by omega) |exact cM (by omega) |exact cN (by omega) |exact cO (by omega) |with_reducible apply And.intro))
    all_goals first| (rw[←Hj hc41];first|exact CLe.refl _| (rw[b3];simp;exact CLe.refl _)) |exact CLe.refl _
   replace b2:=(Bool.not_eq_true _).mp b2
   refine Tr.w hcx [] _ [] rfl rfl rfl ?_ cE
   refine bn rfl ?_
   have hR:gx w=1:=by unfold gx;rw[if_neg (by rw[b0];decide),if_neg (by rw[hO];decide),if_pos (Qu hc30 hc41 b2)]
   refine Tr.w hcx [] _ [] rfl rfl rfl ?_ cE
   refine Tr.k [2] ?_
   exact Tr.ret l4
  obtain rfl:k= (gt w v).length:=by omega
  refine Tr.exit ?_
  refine hK7 _ ?_
  refine Tr.v hcx [1000032] _ [] rfl rfl rfl ?_ cE
  refine ⟨v+1,⟨⟨by omega,(fun j hj=>(Nat.lt_or_eq_of_le (Nat.le_of_lt_succ hj)).elim (hB j) (fun e=>e▸hD))⟩,O1⟩,?_,rfl⟩
  (simp only[bQ,bl,↓bF,↓reduceIte,Nat.reduceEqDiff,ba,br,bc,bu,bv,and_true,true_and];all_goals (repeat' first|exact CLe.refl _|exact True.intro| (refine bH ?_;first|rfl| (simp only[List.take_zero];done)) |exact cU (by omega) |exact cM (by omega) |exact cN (by omega) |exact cO (by omega) |with_reducible apply And.intro))
  all_goals first| (rw[←SU hc30];exact CLe.refl _) |exact CLe.refl _
 obtain rfl:v=w.length:=by omega
 have hT:=Qv hB
 refine Tr.exit ?_
 refine hK5 _ ?_
 refine ae fun K11 hK11=>?_
 refine Tr.w hcx [] _ [] rfl rfl rfl ?_ cE
 refine Tr.k [3,5,8] ?_
 refine am ?_
 refine aV (α:=Nat) (fun a=>[(3,?v3_4),(5,?v5_4),(8,.val (nI a))]) (fun a=>[some [sl vC .no w]]) (fun a=>a≤(aZ w).length∧∀i,i< a→∀j,j< i→¬ (gt (aZ w) i).1= (gt (aZ w) j).1) (fun a=>(aZ w).length - a) (0) ⟨Nat.zero_le _,fun j hj=>absurd hj (Nat.not_lt_zero j)⟩ ?le_4 ?hh_4 ?bd_4
 case hh_4=>exact rfl
 case le_4=>exact LT
 rintro i ⟨hi,hE⟩
 refine ae fun K12 hK12=>?_
 refine Tr.w hcx [] _ [] rfl rfl rfl ?_ cE
 refine aw rfl (fun hc73=>?_) (fun hc73=>?_)
 ·
  refine Tr.skip ?_
  refine hK12 _ ?_
  refine ae fun K13 hK13=>?_
  refine am ?_
  refine Tr.w hcx [] _ [] rfl rfl rfl ?_ cE
  refine Tr.k [3,5,8,9] ?_
  refine am ?_
  refine aV (α:=Nat) (fun a=>[(3,?v3_5),(5,?v5_5),(8,?v8_5),(9,.val (nI a))]) (fun a=>[some [sl vC .no w]]) (fun a=>a≤i∧∀j,j< a→¬ (gt (aZ w) i).1= (gt (aZ w) j).1) (fun a=>i - a) (0) ⟨Nat.zero_le _,fun j hj=>absurd hj (Nat.not_lt_zero j)⟩ ?le_5 ?hh_5 ?bd_5
  case hh_5=>exact rfl
  case le_5=>exact LT
  rintro j ⟨hj0,hG⟩
  refine ae fun K14 hK14=>?_
  refine Tr.w hcx [] _ [] rfl rfl rfl ?_ cE
  refine aw rfl (fun hc78=>?_) (fun hc78=>?_)
  ·
   refine Tr.skip ?_
   refine hK14 _ ?_
   refine ae fun K15 hK15=>?_
   refine am ?_
   refine fh hcx eG [] _ [] rfl rfl rfl rfl ?_ Qw
   refine aw rfl (fun hc91=>?_) (fun hc91=>?_)
   ·
    have hR:gx w=7:=by unfold gx;rw[if_neg (by rw[b0];decide),if_neg (by rw[hO];decide),if_neg (by rw[hT];decide),if_pos (SX hc73 hc78 hc91)]
    refine Tr.w hcx [] _ [] rfl rfl rfl ?_ cE
    exact Tr.ret l4
   refine Tr.skip ?_
   refine hK15 _ ?_
   refine Tr.v hcx [1000080] _ [] rfl rfl rfl ?_ cE
   exact ⟨j+1,⟨⟨by omega,(fun j hj=>(Nat.lt_or_eq_of_le (Nat.le_of_lt_succ hj)).elim (hG j) (fun e=>e▸hc91))⟩,O1⟩,LT,rfl⟩
  obtain rfl:i=j:=by omega
  refine Tr.exit ?_
  refine hK13 _ ?_
  refine Tr.v hcx [1000075] _ [] rfl rfl rfl ?_ cE
  exact ⟨i+1,⟨⟨by omega,(fun j hj=>(Nat.lt_or_eq_of_le (Nat.le_of_lt_succ hj)).elim (hE j) (fun e=>e▸hG))⟩,O1⟩,LT,rfl⟩
 obtain rfl:i= (aZ w).length:=by omega
 have hN:=SY hE
 rw[SW]
 refine Tr.exit ?_
 refine hK11 _ ?_
 refine ae fun K16 hK16=>?_
 by_cases b4:rS w=true
 ·
  skip
  refine Tr.w hcx [] _ [] rfl rfl rfl ?_ cE
  refine aO rfl ?_
  refine Tr.skip ?_
  refine hK16 _ ?_
  have hR:gx w=0:=by unfold gx;rw[if_neg (by rw[b0];decide),if_neg (by rw[hO];decide),if_neg (by rw[hT];decide),if_neg (fun h=>h hN),if_neg (by rw[b4];decide)]
  refine Tr.w hcx [] _ [] rfl rfl rfl ?_ cE
  exact Tr.ret l4
 replace b4:=(Bool.not_eq_true _).mp b4
 refine Tr.w hcx [] _ [] rfl rfl rfl ?_ cE
 refine bn rfl ?_
 have hR:gx w=8:=by unfold gx;rw[if_neg (by rw[b0];decide),if_neg (by rw[hO];decide),if_neg (by rw[hT];decide),if_neg (fun h=>h hN),if_pos b4]
 refine Tr.w hcx [] _ [] rfl rfl rfl ?_ cE
 exact Tr.ret l4
end Go.Sx
