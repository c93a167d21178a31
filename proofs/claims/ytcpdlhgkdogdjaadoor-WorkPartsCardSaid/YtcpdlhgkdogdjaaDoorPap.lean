/-
   And what follows.
-/
import Derived.Test.YtcpdlhgkdogdjaaDoorPao
import Derived.Test.YtcpdlhgkdogdjaaDoorPam
import Derived.Test.YtcpdlhgkdogdjaaDoorPal
set_option linter.unusedSimpArgs false
set_option linter.unusedVariables false
namespace Go.Sx
open Go.RowKit Go.Proofs
def zV (_:Unit):List C:=[.val (.slice none 0 0)]
def zA (_:Unit):List C:=[.val (str []),.val (.slice none 0 0)]
instance:Sca zV (fun _=> .val (.slice none 0 0)):=⟨fun _=>rfl,fun _=>rfl,fun _=>rfl,fun _ _=>rfl⟩
instance:Cel zA 2:=⟨fun _=>rfl,fun _=>rfl,by decide,fun _ _=>rfl⟩
instance:Nrf zV:=⟨fun k x=>rfl⟩
instance:Nrf zA:=⟨fun k x=>rfl⟩
theorem C2 (y:Int)(k:Nat)(hy: -9223372036854775808≤y∧y≤9223372036854775807): -9223372036854775808≤y.tdiv (k:Int)∧y.tdiv (k:Int)≤9223372036854775807:=by
 have h1: (y.tdiv (k:Int)).natAbs≤y.natAbs:=by
  rw[Int.natAbs_tdiv]
  exact Nat.div_le_self _ _
 by_cases hp:0≤y
 . have h3:0≤y.tdiv (k:Int):=Int.tdiv_nonneg hp (Int.natCast_nonneg k)
   omega
 . have h3:y.tdiv (k:Int)≤0:=by
    have:=Int.tdiv_nonneg (a:= -y) (b:=(k:Int)) (by omega) (Int.natCast_nonneg k)
    rw[Int.neg_tdiv] at this
    omega
   omega
theorem zI (w:aj)(v:Nat)(c:C)(h:v< w.length):dJ (cl vC w) v [c] =some ((cl vC w).set v c,.val undef):=by
 have hl: (cl vC w).length=w.length:=by rw[aw (f:=vC),Nat.mul_one]
 unfold dJ
 rw[if_pos (by rw[hl];exact h)]
 unfold splice
 rw[List.set_eq_take_append_cons_drop,if_pos (by omega)]
 simp
theorem Hk (n m:Nat)(w:aj)(v:Nat)(c:C)(h:v< w.length):dJ (fV n v m w) v [c] =some ((cl vC w).set v c,.val undef):=by
 have hl: (cl vC w).length=w.length:=by rw[aw (f:=vC),Nat.mul_one]
 unfold dJ fV
 rw[if_pos (by rw[List.length_set,hl];exact h)]
 unfold splice
 rw[show ∀l:List C,l.take v++[c]++l.drop (v+[c].length) =l.take v++c::l.drop (v+1) from fun l=>by simp]
 have e:=List.set_eq_take_append_cons_drop (l:=(cl vC w).set v (.gv (n+1) m (2,48))) (i:=v) (a:=c)
 rw[if_pos (by rw[List.length_set];omega)] at e
 rw[←e,List.set_set]
theorem Mp {α:Type}[Inhabited α](l:List α)(i:Nat):l.set i (gt l i) =l:=by
 apply List.ext_getElem?
 intro j
 rw[List.getElem?_set]
 split
 . rename_i e;subst e
   split
   . rename_i hj;simp[gt,List.getD,List.getElem?_eq_getElem hj]
   . rename_i hj;rw[List.getElem?_eq_none (by omega)]
 . rfl
theorem zJ {ok:Nat→Bool}{b n v m:Nat}{w:aj}{ys:List C}(hb:¬n+1=b)(h:ok (n+1) =true):fzCs ok b ys (fV n v m w) =fV n v m w:=by
 unfold fV
 rw[iM,iJ,lH,if_neg hb,if_pos h]
theorem C3 (ok:Nat→Bool)(b:Nat)(ys:List C):fzCs ok b ys cO=cO:=rfl
theorem Mq {n v m:Nat}{w:aj}(h:v< w.length): (fV n v m w)[v]? =some (.gv (n+1) m (2,48)):=by
 unfold fV
 rw[List.getElem?_set_self (by rw[aw (f:=vC)];omega)]
theorem Mr (V:bY)(b:Nat)(l:List aN)(h:b< V.length):qA (cl aC V) (b*2+1) (sl pC (.own 7) l) =some ((cl aC V).set (b*2+1) (sl pC (.own 7) l),.val undef):=by
 have hl: (cl aC V).length=V.length*2:=aw (f:=aC) V
 unfold qA;rw[if_pos (by omega)]
theorem Hl (w:aj)(v b n:Nat)(s:Nat×Nat):aQ (some ((cl vC w).set v (.gv b n s))) =some ((cl vC w).set v (.gv b n s)):=kI (gn vC w) ..
theorem Hm (V:bY)(k:Nat)(r:Rt)(l:List aN):aQ (some ((cl aC V).set k (sl pC r l))) =some ((cl aC V).set k (sl pC r l)):=ou (gn aC V) k rfl
theorem C4 (V:bY)(k b n:Nat)(s:Nat×Nat):aQ (some ((cl aC V).set k (.gv b n s))) =some ((cl aC V).set k (.gv b n s)):=kI (gn aC V) ..
attribute [go_sem] Hl Hm C4
theorem Ho (v m:Nat)(w:aj): (fV 0 v m w).set v (.gv 1 m (2,48)) =fV 0 v m w:=by unfold fV;rw[List.set_set]
theorem Hq (u:TypeDesc)(y:Nat)(x:fH):fE (some ⟨u,2,y,[str [],.slice none 0 0]⟩) 1 [(0,.agg (aC x))] =some (vp (sl aC .full [x])):=rfl
attribute [go_sem] Hq
attribute [go_sem high] Ho Mr Mq
attribute [go_sem] b8 zJ iM C3
attribute [go_sem high] zI Hk
end Go.Sx
namespace Go.Sx
open Go.RowKit Go.Proofs
theorem Ht {l:List C}{k:Nat}(h:k< l.length):l≠[]:=fun e=>by rw[e] at h;simp at h
theorem zK (w:aj)(v:Nat)(c:C):fS ((cl vC w).set v c) w.length (1,46) = .sl .no w.length ((cl vC w).set v c):=by
 have hl: ((cl vC w).set v c).length=w.length*1:=by rw[List.length_set,aw (f:=vC)]
 unfold fS
 simp only[]
 rw[if_pos (by rw[hl];exact Nat.le_refl _),←hl,List.take_length]
attribute [go_sem] zK
end Go.Sx
namespace Go.Sx
open Go.RowKit Go.Proofs
set_option maxRecDepth 100000
set_option maxHeartbeats 8000000
end Go.Sx
namespace Go.Sx
open Go.RowKit Go.Proofs
set_option maxRecDepth 100000
set_option maxHeartbeats 8000000
end Go.Sx
namespace Go.Sx
open Go.RowKit Go.Proofs
set_option maxRecDepth 100000
set_option maxHeartbeats 8000000
end Go.Sx
namespace Go.Sx
open Go.RowKit Go.Proofs
set_option maxRecDepth 100000
set_option maxHeartbeats 8000000
end Go.Sx
namespace Go.Sx
open Go.RowKit Go.Proofs
theorem pX (r:Nat→Nat)(x:C):∀ (l:List C)(i:Nat),bkCs r (l.set i x) = (bkCs r l).set i (bU r x)
 | [],_=>by simp only[List.set_nil,bkCs]
 |y::l,0=>by simp only[List.set_cons_zero,bkCs]
 |y::l,i+1=>by simp only[List.set_cons_succ,bkCs,pX r x l i]
theorem Oo (n v m:Nat)(w:aj):bkCs (n+ ·) (fV 0 v m w) =fV n v m w:=by unfold fV;rw[pX,sV];rfl
theorem Oq (n a m:Nat)(V:bY):bkCs (n+ ·) (fA 0 a m V) =fA n a m V:=by unfold fA;rw[pX,sV];rfl
def tD (w:aj)(v a:Nat):Hp:=[some (fV 0 v (gt w v).length w),some (fA 0 a (gt (gt w v) a).2.length (gt w v)),some (cl pC (gt (gt w v) a).2)]
section
variable {gl:Nat→C} {pu:Nat→List C→Option C}
noncomputable def Mv {M:Nat}(hcx:CxOK (aS gl M pu))(w:aj)(v a:Nat)(hw:WG w):Mk Tryd.prog gl 20 Unit where
 args _:=[.agg [sl vC .no w]]
 r _:= .agg [.gv 0 w.length (1,46)]
 Y _:=tD w v a++[some [.gv 0 w.length (1,46)]]
 nr _:=by simp only[noRefs,ag,aI,Bool.and_self]
 inj _ _ _:=⟨rfl,rfl⟩
 fc _:=DU hcx w v a hw
theorem Or (w:aj)(v a:Nat):∀o∈tD w v a,((aQ o).isSome|| (eu o).isSome) =true:=by
 intro o ho
 simp only[tD,List.mem_cons,List.not_mem_nil,or_false] at ho
 rcases ho with rfl|rfl|rfl
 . rw[pT];rfl
 . rw[uV];rfl
 . rw[gn];rfl
theorem C5 {M N:Nat}{hp:Nat→List C→Hp→Option (C×Hp)}(hcx:CxOK (aS gl N pu))(hc:CxOK (iy gl N pu hp))(w:aj)(v a:Nat)(hw:WG w):CxOK (iy gl M pu (hpS hp 14 [.agg [.gv 0 w.length (1,46)]] (tD w v a) (sl pC (.own 7) (cB w),tD w v a))):=
 zd hc (On hcx w v a hw) rfl (Or w v a) rfl (pU _ _ _ 3 (by decide)) (aI pC 3 (.own 7) (cB w)) (pU _ _ _ 3 (by decide))
theorem C6 {M N:Nat}{hp:Nat→List C→Hp→Option (C×Hp)}(hcx:CxOK (aS gl N pu))(hc:CxOK (iy gl N pu hp))(w:aj)(v a:Nat)(hw:WG w):CxOK (iy gl M pu ((Mv hcx w v a hw).tab hp)):=sZ hc (Mv hcx w v a hw)
end
end Go.Sx
namespace Go.Sx
open Go.RowKit Go.Proofs
def PZ (N:Nat)(p:aN):Prop:=p.2.2.2.1.length≤N∧p.2.2.2.2.length≤N∧b9 p.1
def AZ (N:Nat)(A:fH):Prop:=A.1.length≤N∧A.2.length≤N∧∀p,p∈A.2→PZ N p
def cM (V:bY):List aN:=V.flatMap (·.2)
structure WZ (N:Nat) (w:aj):Prop where
 n:w.length≤N
 al: (w.flatMap cM).length≤N
 ar:w.flatten.length≤N
 v:∀V,V∈w→V.length≤N∧∀A,A∈V→AZ N A
theorem PZ.mono {N K:Nat}(h:N≤K){p:aN}(hp:PZ N p):PZ K p:=⟨Nat.le_trans hp.1 h,Nat.le_trans hp.2.1 h,hp.2.2⟩
theorem kL {α β:Type}(f:α→List β)(x:α):∀ (l:List α),x∈l→(f x).length≤(l.flatMap f).length
 |y::l,h=>by
  simp only[List.flatMap_cons,List.length_append]
  rcases List.mem_cons.1 h with rfl|h
  . omega
  . have:=kL f x l h;omega
theorem pY {n:Nat}(h:n≤2000):qP (n:Int):=⟨by omega,by omega⟩
theorem uW (l:List Int)(a:Nat)(id:ID)(h:b9 id):PZ 100 (fT l a id):=by
 have h1:=kG l a (iu l a)
 have h2:=pN l a
 have h3:=nN l a (iu l a)
 exact ⟨by show (gh l a (iu l a)).length≤_;omega,by show (jb l a (iu l a)).length≤_;omega,h⟩
theorem j4 (w:aj):cB w=w.flatMap cM:=tw w
theorem WZ.wg {N:Nat}{w:aj}(h:WZ N w)(hN:N≤100000):WG w:=by
 have h1:=h.n
 have h2:=h.al
 have h3:=h.ar
 refine ⟨by omega,by rw[j4];omega,?_,fun V hV=>⟨by have:=(h.v V hV).1;omega,fun A hA=>?_⟩⟩
 . unfold nA;rw[List.take_length];omega
 . have q:=(h.v V hV).2 A hA
   exact ⟨by have:=q.1;omega,by have:=q.2.1;omega,fun p hp=>⟨by have:=(q.2.2 p hp).1;omega,by have:=(q.2.2 p hp).2.1;omega,(q.2.2 p hp).2.2⟩⟩
theorem zL (l:List Int)(n:Nat):∀j,n+j≤8→∀p,p∈eQ l n j→PZ 100 p
 |0,_,p,hp=>by cases hp
 |j+1,h,p,hp=>by
  rw[eQ,List.mem_append,List.mem_singleton] at hp
  rcases hp with hp|rfl
  . exact zL l n j (by omega) p hp
  . have:=uW l (9+4*(n+j)) (idk (n+j)) ⟨pY (n:=0) (by decide),pY (by omega),pY (n:=0) (by decide)⟩
    unfold PZ at this ⊢
    rw[DS,Og];exact this
theorem zM (l:List Int)(i n:Nat)(h:n≤8):∀k,∀A,A∈ (dq l i n k).1→AZ 1000 A
 |0,A,hA=>by cases hA
 |k+1,A,hA=>by
  simp only[dq] at hA
  rw[List.mem_append,List.mem_singleton] at hA
  rcases hA with hA|rfl
  . exact zM l i n h k A hA
  . have h1:=lR l i n h k
    have h2:jc l i k (dq l i n k).2=min (1+bR l (5+2*i+k) 3) (8 - (dq l i n k).2):=rfl
    refine ⟨?_,?_,?_⟩
    . have:=(ja l (3+i+k)).2.1;show (fj l (3+i+k)).length≤_;omega
    . show (eQ _ _ _).length≤_;rw[jW];omega
    . exact fun p hp=>(zL l _ _ (by omega) p hp).mono (by decide)
theorem zN (l:List Int):∀i,∀V,V∈ (dr l i).1→V.length≤2∧∀A,A∈V→AZ 1000 A
 |0,V,hV=>by cases hV
 |i+1,V,hV=>by
  simp only[dr] at hV
  rw[List.mem_append,List.mem_singleton] at hV
  rcases hV with hV|rfl
  . exact zN l i V hV
  . refine ⟨?_,zM l i _ (lS l i) _⟩
    rw[mm]
    have:=dO l (1+i) (m:=2) (by decide);omega
end Go.Sx
namespace Go.Sx
open Go.RowKit Go.Proofs
def lX (w:aj):List C:=[sl vC .no w]
instance:Sca lX (sl vC .no):=⟨fun _=>rfl,fun _=>rfl,fun _=>rfl,fun _ _=>rfl⟩
instance:Nrf lX:=⟨fun k x=>by simp only[lX,noRefs,aI,Bool.and_self]⟩
end Go.Sx
namespace Go.Sx
open Go.RowKit Go.Proofs
set_option maxRecDepth 100000
set_option maxHeartbeats 8000000
end Go.Sx
namespace Go.Sx
open Go.RowKit Go.Proofs
set_option maxRecDepth 100000
set_option maxHeartbeats 8000000
end Go.Sx
namespace Go.Sx
open Go.RowKit Go.Proofs
set_option maxRecDepth 100000
end Go.Sx
namespace Go.Sx
open Go.RowKit Go.Proofs
set_option maxRecDepth 100000
set_option maxHeartbeats 8000000
set_option maxRecDepth 100000
end Go.Sx
namespace Go.Sx
open Go.RowKit Go.Proofs
set_option maxRecDepth 100000
set_option maxHeartbeats 8000000
set_option maxRecDepth 100000
def jt (l:List aN)(i:Nat):Bool:= !(decide ((gt l i).2.1= ((1:Nat):Int)) && (decide (i=0) ||decide ((gt l (i - 1)).2.1= ((2:Nat):Int))))
def jg (l:List aN):Bool:=(List.range l.length).all (jt l)
theorem oY {l:List aN}(h:∀j,j< l.length→jt l j=true):jg l=true:=List.all_eq_true.2 fun j hj=>h j (List.mem_range.1 hj)
end Go.Sx
namespace Go.Sx
open Go.RowKit Go.Proofs
set_option maxRecDepth 100000
set_option maxHeartbeats 8000000
set_option maxRecDepth 100000
def C7 (w:aj):Bool:=w.all fun V=>V.all fun A=>jg A.2
def C8 (w:aj):Nat:=if du w=true then 4 else if jA w=false then 1 else if gi w=false then 1 else if ¬ (d4 w).Nodup then 7 else if C7 w=false then 8 else 0
end Go.Sx
namespace Go.Sx
open Go.RowKit Go.Proofs
theorem tE {w:aj}{v a i:Nat}(hv:v< w.length)(ha:a< (gt w v).length)(hi:i< (gt (gt w v) a).2.length):jB w (oV w v+(oA v (gt w v) a+i)) =jt (gt (gt w v) a).2 i:=by
 unfold jB jt
 rw[(oT w v a i hv ha hi).1]
 cases i with
 |zero=>simp
 |succ k=>
  have e:tp w (oV w v+(oA v (gt w v) a+(k+1))) = (gt (aK w) (oV w v+(oA v (gt w v) a+k))).2.2.1:=rfl
  rw[e,(oT w v a k hv ha (by omega)).1]
  simp
theorem pZ {f:Nat→Nat}(h0:f 0=0):∀n j,j< f n→∃v,v< n∧f v≤j∧j< f (v+1)
 |0,j,h=>by rw[h0] at h;omega
 |n+1,j,h=>by
  by_cases hj:j< f n
  . obtain ⟨v,h1,h2,h3⟩:=pZ h0 n j hj
    exact ⟨v,by omega,h2,h3⟩
  . exact ⟨n,by omega,by omega,h⟩
theorem Mx {w:aj}{j:Nat}(hj:j< (aK w).length):∃v a i,v< w.length∧a< (gt w v).length∧i< (gt (gt w v) a).2.length∧j=oV w v+(oA v (gt w v) a+i):=by
 rw[←LY] at hj
 obtain ⟨v,hv,h1,h2⟩:=pZ (f:=oV w) (Qd w) w.length j hj
 rw[LX,←LW] at h2
 obtain ⟨a,ha,h3,h4⟩:=pZ (f:=oA v (gt w v)) (LU v (gt w v)) (gt w v).length (j - oV w v) (by omega)
 rw[LV] at h4
 exact ⟨v,a,j - oV w v - oA v (gt w v) a,hv,ha,by omega,by omega⟩
theorem Hv (w:aj):C7 w=lV w:=by
 rw[Bool.eq_iff_iff]
 constructor
 . intro h
   refine List.all_eq_true.2 fun j hj=>?_
   obtain ⟨v,a,i,hv,ha,hi,rfl⟩:=Mx (List.mem_range.1 hj)
   rw[tE hv ha hi]
   have h1:=List.all_eq_true.1 (List.all_eq_true.1 h _ (ba w v hv)) _ (ba _ a ha)
   exact List.all_eq_true.1 h1 i (List.mem_range.2 hi)
 . intro h
   refine jX fun v hv=>jX fun a ha=>?_
   refine oY fun i hi=>?_
   rw[←tE hv ha hi]
   exact List.all_eq_true.1 h _ (List.mem_range.2 (oT w v a i hv ha hi).2)
theorem Hw (w:aj):C8 w=ec w:=by unfold C8 ec;rw[Hv]
end Go.Sx
namespace Go.Sx
end Go.Sx
namespace Go.Sx
end Go.Sx
namespace Go.Sx
theorem s6:∀ (s:List UInt8)(p:Bool),ig p s=true→∀i,i< s.length→32≤gt s i∧gt s i≤126∧(gt s i=32→(i=0→p=false)∧i+1≠s.length∧(0< i→gt s (i - 1)≠32))
 | [],p,_,i,hi=>by simp at hi
 |c::r,p,h,i,hi=>by
  unfold ig at h
  by_cases hc:c=32
  . subst hc
    rw[if_pos rfl,Bool.and_eq_true,Bool.not_eq_true'] at h
    have hr:r≠[]:=by rintro rfl;simp[ig] at h
    cases i with
    |zero=>
     rw[kr]
     refine ⟨by decide,by decide,fun _=>⟨fun _=>h.1,fun e=>?_,fun h=>absurd h (Nat.lt_irrefl 0)⟩⟩
     have:r.length=0:=by simpa using e.symm
     exact hr (List.length_eq_zero_iff.1 this)
    |succ i=>
     have ih:=s6 r true h.2 i (by simpa using hi)
     rw[i3]
     refine ⟨ih.1,ih.2.1,fun e=>?_⟩
     obtain ⟨j1,j2,j3⟩:=ih.2.2 e
     refine ⟨fun h=>absurd h (by omega),by simpa using j2,fun _=>?_⟩
     cases i with
     |zero=>exact absurd (j1 rfl) (by decide)
     |succ i=>rw[Nat.add_sub_cancel,i3];have:=j3 (by omega);rwa [Nat.add_sub_cancel] at this
  . rw[if_neg hc,Bool.and_eq_true,Bool.and_eq_true,decide_eq_true_eq,decide_eq_true_eq] at h
    cases i with
    |zero=>
     rw[kr]
     exact ⟨h.1.1,h.1.2,fun e=>absurd e hc⟩
    |succ i=>
     have ih:=s6 r false h.2 i (by simpa using hi)
     rw[i3]
     refine ⟨ih.1,ih.2.1,fun e=>?_⟩
     obtain ⟨j1,j2,j3⟩:=ih.2.2 e
     refine ⟨fun h=>absurd h (by omega),by simpa using j2,fun _=>?_⟩
     cases i with
     |zero=>rw[kr];exact hc
     |succ i=>rw[Nat.add_sub_cancel,i3];have:=j3 (by omega);rwa [Nat.add_sub_cancel] at this
theorem s7 {s:List UInt8}(h:ig true s=true)(h0:0< s.length)(hl:s.length≤256):dN s=0:=by
 have hb:¬DM s=true:=by
  intro hb
  obtain ⟨i,hi,hx⟩:=List.any_eq_true.1 hb
  obtain ⟨q1,q2,q3⟩:=s6 s true h i (List.mem_range.1 hi)
  unfold g4 at hx
  simp only[Bool.or_eq_true,Bool.and_eq_true,decide_eq_true_eq] at hx
  rcases hx with (hx|hx) | ⟨hx,hy⟩
  . exact absurd q1 (by simpa using hx)
  . exact absurd q2 (by simpa using hx)
  . obtain ⟨j1,j2,j3⟩:=q3 hx
    rcases hy with (hy|hy) |hy
    . exact absurd (j1 hy) (by decide)
    . exact j2 hy
    . rcases Nat.eq_zero_or_pos i with h0|h0
      . exact absurd (j1 h0) (by decide)
      . exact j3 h0 hy
 have ht:=kE s
 unfold dN
 rw[if_neg (by omega),if_neg hb,if_neg (by rintro rfl;simp at h0),if_neg (by omega)]
theorem v5 (a b:List UInt8):d9 (mi a b) =d9 a++(d9 b).map (zg (a.length+1)):=zh a b
theorem Cu {α:Type}[Inhabited α](l r:List α)(t:Nat)(h:l.length≤t):gt (l++r) t=gt r (t - l.length):=by
 simp only[gt,List.getD]
 rw[List.getElem?_append_right h]
theorem Cv (k d:Nat)(x y:List Tok):mW k (x++y.map (zg d)) =mW k x++(mW k y).map (· +x.length):=by
 unfold mW
 rw[List.length_append,List.length_map,List.range_add,List.filter_append]
 congr 1
 . refine List.filter_congr fun i hi=>?_
   rw[EG _ _ _ (List.mem_range.1 hi)]
 . rw[List.filter_map]
   have e:List.filter ((fun i=>decide ((gt (x++y.map (zg d)) i).k=k)) ∘fun i=>x.length+i) (List.range y.length) =List.filter (fun i=>decide ((gt y i).k=k)) (List.range y.length):=by
    refine List.filter_congr fun i hi=>?_
    simp only[Function.comp]
    rw[Cu _ _ _ (by omega),Nat.add_sub_cancel_left,Ia _ _ _ (List.mem_range.1 hi)]
    rfl
   rw[e]
   refine List.map_congr_left fun i _=>?_
   omega
theorem oH (a b:List UInt8):cH (mi a b) =cH a++(cH b).map (· +(d9 a).length):=by
 unfold cH
 rw[v5,Cv]
end Go.Sx
namespace Go.Sx
open Go.RowKit Go.Proofs
theorem wp: (List.range 108).all (fun n=>decide ((cH (gg n)).length=0)) =true:=by decide+kernel
theorem mY (l:List Int)(k:Nat):∀i,(cH (dI l k i)).length=0
 |0=>rfl
 |i+1=>by
  have hu: (cH (gg (bR l (k+1+i) 108))).length=0:=of_decide_eq_true (List.all_eq_true.1 wp _ (List.mem_range.2 (dO l (k+1+i) (by decide))))
  unfold dI
  split
  . have e:dI l k i++[32]++gg (bR l (k+1+i) 108) =mi (dI l k i) (gg (bR l (k+1+i) 108)):=by unfold mi;simp
    rw[e,oH,List.length_append,List.length_map,mY l k i,hu]
  . rename_i h
    obtain rfl:i=0:=by omega
    exact hu
theorem mZ (l:List Int)(k:Nat): (cH (fj l k)).length=0:=mY l k _
theorem oZ (l:List Int)(a:Nat):∀n,(cH (gh l a n)).length=n
 |0=>mZ l _
 |n+1=>by
  have e:gh l a (n+1) =mi (gh l a n) [64]:=by show gh l a n++[32,64] =_;unfold mi;simp
  rw[e,oH,List.length_append,List.length_map,oZ l a n]
  rfl
theorem tF (l:List Int)(a:Nat):∀n,ig true (gh l a n) =true∧0< (gh l a n).length
 |0=>⟨(ja l _).1,(ja l _).2.2⟩
 |n+1=>⟨mj _ _ [64] (tF l a n).1 (by decide),by show 0< (gh l a n++[32,64]).length;simp⟩
theorem zQ (l:List Int)(k:Nat):dN (fj l k) =0:=by
 have h:=ja l k
 exact s7 h.1 h.2.2 (by omega)
theorem C9 (l:List Int)(a n:Nat)(hn:n≤2):dN (gh l a n) =0:=by
 have h:=tF l a n
 have:=kG l a n
 exact s7 h.1 h.2 (by omega)
end Go.Sx
namespace Go.Sx
open Go.RowKit Go.Proofs
theorem uX {k:Nat}(h:k≤63):gO (((0:Nat):Int),(k:Int),((0:Nat):Int)) =true:=by
 unfold gO
 exact decide_eq_true ⟨by show (0:Int)≤0;decide,by show (0:Int) < 6;decide,by show (0:Int)≤k;omega,by show (k:Int)≤63;omega,by show (0:Int)≤0;decide,by show (0:Int) < 1024;decide⟩
theorem Hx (l:List Int)(a i:Nat):lU (pM l a i) =true:=by
 unfold pM
 split
 . exact DO rfl
 . have:=dO l (a+3+i) (m:=9) (by decide)
   exact DP (uX (by omega))
theorem Hy (l:List Int)(a:Nat):gt formT (bR l a 8)≤3:=by
 have:=oG formT (fun n=>decide (n≤3)) (by decide) _ (dO l a (m:=8) (by decide))
 simpa using this
theorem tG (l:List Int)(a k:Nat)(h:k≤63):cI (fT l a (((0:Nat):Int),(k:Int),((0:Nat):Int))) =true:=by
 have h1:=Hy l a
 have h2:=dO l (a+1) (m:=8) (by decide)
 have h3:=pN l a
 refine zq (uX h) ⟨?_,?_,?_,?_⟩ (C9 l a _ h3) ?_ ?_
 . show (0:Int)≤((gt formT (bR l a 8):Nat):Int);omega
 . show ((gt formT (bR l a 8):Nat):Int) < 4;omega
 . show (0:Int)≤((bR l (a+1) 8 / 3:Nat):Int);omega
 . show ((bR l (a+1) 8 / 3:Nat):Int) < 4;omega
 . show (cH (gh l a (iu l a))).length= (jb l a (iu l a)).length
   rw[oZ,nN]
 . refine List.all_eq_true.2 fun x hx=>?_
   have hx:x∈jb l a (iu l a):=hx
   unfold jb at hx
   obtain ⟨i,_,rfl⟩:=List.mem_map.1 hx
   exact Hx l a i
theorem zR {p:aN}(h:cI p=true):cI (p.1,((0:Nat):Int),p.2.2) =true:=by
 unfold cI at h ⊢
 simp only[Bool.and_eq_true,decide_eq_true_eq] at h ⊢
 exact ⟨⟨⟨⟨h.1.1.1.1,by decide,by decide,h.1.1.1.2.2.2.1,h.1.1.1.2.2.2.2⟩,h.1.1.2⟩,h.1.2⟩,h.2⟩
theorem Hz {p:aN}(h:cI p=true)(j:Nat)(ps:List aN):cI (lQ p j ps) =true:=by
 unfold lQ
 split
 . exact zR h
 . exact h
theorem uY (l:List Int)(n:Nat):∀j,n+j≤8→∀p,p∈eQ l n j→cI p=true
 |0,_,p,hp=>by cases hp
 |j+1,h,p,hp=>by
  rw[eQ,List.mem_append,List.mem_singleton] at hp
  rcases hp with hp|rfl
  . exact uY l n j (by omega) p hp
  . exact Hz (tG l _ (n+j) (by omega)) _ _
theorem uZ (l:List aN)(p:aN)(i:Nat)(h:i< l.length):jt (l++[p]) i=jt l i:=by
 unfold jt
 have e:∀k,k< l.length→gt (l++[p]) k=gt l k:=fun k hk=>by simp[gt,List.getD,List.getElem?_append_left hk]
 rw[e i h,e (i - 1) (by omega)]
theorem u0 (l:List Int)(n:Nat):∀j i,i< j→jt (eQ l n j) i=true
 |j+1,i,h=>by
  have hl:=jW l n j
  rw[eQ]
  by_cases hi:i< j
  . rw[uZ _ _ _ (by omega)];exact u0 l n j i hi
  . obtain rfl:i=j:=by omega
    generalize hq:fT l (9+4*(n+i)) (((0:Nat):Int),((n+i:Nat):Int),((0:Nat):Int)) =q
    have e1:gt (eQ l n i++[lQ q i (eQ l n i)]) i=lQ q i (eQ l n i):=by
     simp[gt,List.getD,List.getElem?_append_right,hl]
    unfold jt
    rw[e1]
    by_cases hc:q.2.1= ((1:Nat):Int)∧(i=0∨(gt (eQ l n i) (i - 1)).2.1= ((2:Nat):Int))
    . rw[v9 hc.1 hc.2]
      rw[decide_eq_false (by show ¬ (((0:Nat):Int) = ((1:Nat):Int));decide)];rfl
    . rw[wa hc]
      by_cases h1:q.2.1= ((1:Nat):Int)
      . have h2:¬i=0:=fun e=>hc ⟨h1,.inl e⟩
        have h3:¬ (gt (eQ l n i) (i - 1)).2.1= ((2:Nat):Int):=fun e=>hc ⟨h1,.inr e⟩
        have e2:gt (eQ l n i++[q]) (i - 1) =gt (eQ l n i) (i - 1):=by
         simp[gt,List.getD,List.getElem?_append_left (show i - 1< (eQ l n i).length by omega)]
        rw[e2,decide_eq_false h2,decide_eq_false h3];simp
      . rw[decide_eq_false h1];rfl
theorem zS (l:List Int)(i n:Nat)(h:n≤8):∀k,∀A,A∈ (dq l i n k).1→jz A.1=true∧(∀p,p∈A.2→cI p=true)∧jg A.2=true
 |0,A,hA=>by cases hA
 |k+1,A,hA=>by
  simp only[dq] at hA
  rw[List.mem_append,List.mem_singleton] at hA
  rcases hA with hA|rfl
  . exact zS l i n h k A hA
  . have h1:=lR l i n h k
    have h2:jc l i k (dq l i n k).2=min (1+bR l (5+2*i+k) 3) (8 - (dq l i n k).2):=rfl
    refine ⟨zr (zQ l _) (mZ l _),uY l _ _ (by omega),oY fun j hj=>?_⟩
    exact u0 l _ _ j (by have:=hj;rwa [jW] at this)
theorem zT (l:List Int):∀i,∀V,V∈ (dr l i).1→V.length≤2∧∀A,A∈V→jz A.1=true∧(∀p,p∈A.2→cI p=true)∧jg A.2=true
 |0,V,hV=>by cases hV
 |i+1,V,hV=>by
  simp only[dr] at hV
  rw[List.mem_append,List.mem_singleton] at hV
  rcases hV with hV|rfl
  . exact zT l i V hV
  . refine ⟨?_,zS l i _ (lS l i) _⟩
    rw[mm]
    have:=dO l (1+i) (m:=2) (by decide);omega
end Go.Sx
namespace Go.Sx
open Go.RowKit Go.Proofs
def GA (A:fH):Prop:=jz A.1=true∧jg A.2=true∧A.1.length≤1000∧∀p,p∈A.2→cI p=true∧PZ 1000 p
structure VO (w:aj):Prop where
 n:w.length≤8
 v:∀V,V∈w→V.length≤64
 al: (w.flatMap cM).length≤1024
 a:∀V,V∈w→∀A,A∈V→GA A
 nd: ((w.flatMap cM).map (·.1)).Nodup
theorem VO.val {w:aj}(h:VO w):ec w=0:=by
 rw[←Hw]
 have hal: (cB w).length≤1024:=by rw[j4];exact h.al
 have hL:du w=false:=by
  unfold du
  have e:w.any (fun V=>decide (64< V.length)) =false:=by
   rw[←Bool.not_eq_true]
   intro q
   obtain ⟨V,hV,hq⟩:=List.any_eq_true.1 q
   have:=of_decide_eq_true hq
   have:=h.v V hV
   omega
  have:=h.n
  rw[e,decide_eq_false (by omega),decide_eq_false (by omega)];rfl
 have hO:jA w=true:=by
  refine List.all_eq_true.2 fun p hp=>?_
  obtain ⟨V,hV,A,hA,hp⟩:=uR.1 hp
  exact ((h.a V hV A hA).2.2.2 p hp).1
 have hT:gi w=true:=List.all_eq_true.2 fun V hV=>List.all_eq_true.2 fun A hA=>(h.a V hV A hA).1
 have hS:C7 w=true:=List.all_eq_true.2 fun V hV=>List.all_eq_true.2 fun A hA=>(h.a V hV A hA).2.1
 have hN: (d4 w).Nodup:=by unfold d4;rw[j4];exact h.nd
 unfold C8
 rw[if_neg (by rw[hL];decide),if_neg (by rw[hO];decide),if_neg (by rw[hT];decide),if_neg (fun q=>q hN),if_neg (by rw[hS];decide)]
theorem zU:∀ (w:aj)(n:Nat),(∀V,V∈w→V.length≤n)→w.flatten.length≤w.length*n
 | [],n,_=>by simp
 |V::w,n,h=>by
  have:=zU w n fun V hV=>h V (List.mem_cons_of_mem _ hV)
  have h1:=h V (List.mem_cons_self ..)
  rw[List.flatten_cons,List.length_append,List.length_cons,Nat.add_mul];omega
theorem VO.wz {w:aj}(h:VO w):WZ 2000 w:=by
 have h1:=h.n
 have h2:=h.al
 have h3:=zU w 64 h.v
 refine ⟨by omega,by omega,?_,fun V hV=>⟨by have:=h.v V hV;omega,fun A hA=>?_⟩⟩
 . have:=Nat.mul_le_mul_right 64 h1;omega
 . obtain ⟨_,_,q1,q2⟩:=h.a V hV A hA
   have h4:A.2.length≤(w.flatMap cM).length:=Nat.le_trans (kL (fun A:fH=>A.2) A V hA) (kL cM V w hV)
   exact ⟨by omega,by omega,fun p hp=>(q2 p hp).2.mono (by decide)⟩
theorem VO.wg {w:aj}(h:VO w):WG w:=h.wz.wg (by decide)
theorem MA {α β:Type}(f:α→List β){l m:List α}(h:List.Sublist l m):List.Sublist (l.flatMap f) (m.flatMap f):=by
 induction h with
 |slnil=>exact List.Sublist.slnil
 |cons a h ih=>rw[List.flatMap_cons];exact ih.trans (List.sublist_append_right _ _)
 |cons_cons a h ih=>rw[List.flatMap_cons,List.flatMap_cons];exact (List.Sublist.refl _).append ih
theorem gV {α β:Type}[Inhabited α](f:α→List β)(x:α):∀ (l:List α)(i:Nat),i< l.length→List.Perm ((l.set i x).flatMap f++f (gt l i)) (l.flatMap f++f x)
 |y::l,0,_=>by
  rw[List.set_cons_zero,List.flatMap_cons,List.flatMap_cons]
  show List.Perm ((f x++l.flatMap f)++f y) ((f y++l.flatMap f)++f x)
  refine List.perm_append_comm.trans ?_
  rw[List.append_assoc]
  refine List.Perm.append_left _ ?_
  exact List.perm_append_comm
 |y::l,i+1,h=>by
  rw[List.set_cons_succ,List.flatMap_cons,List.flatMap_cons]
  show List.Perm ((f y++(l.set i x).flatMap f)++f (gt l i)) ((f y++l.flatMap f)++f x)
  rw[List.append_assoc,List.append_assoc]
  exact (gV f x l i (by simpa using h)).append_left _
theorem zW {α β:Type}[Inhabited α](f:α→List β):∀ (l:List α)(i:Nat),i< l.length→List.Perm ((l.take i++l.drop (i+1)).flatMap f++f (gt l i)) (l.flatMap f)
 |y::l,0,_=>by
  show List.Perm (l.flatMap f++f y) (f y++l.flatMap f)
  exact List.perm_append_comm
 |y::l,i+1,h=>by
  show List.Perm ((f y++(l.take i++l.drop (i+1)).flatMap f)++f (gt l i)) (f y++l.flatMap f)
  rw[List.append_assoc]
  exact (zW f l i (by simpa using h)).append_left _
theorem zX {α:Type}(l:List α)(i:Nat):List.Sublist (l.take i++l.drop (i+1)) l:=by
 conv=>rhs;rw[←List.take_append_drop i l]
 refine (List.Sublist.refl _).append ?_
 rw[show l.drop (i+1) = (l.drop i).drop 1 by rw[List.drop_drop]]
 exact List.drop_sublist _ _
structure VS (w:aj):Prop where
 o:VO w
 n:w.length≤4
 v:∀V,V∈w→V.length≤4
 al: (w.flatMap cM).length≤16
theorem VO.sub {w x:aj}(h:VO w)(hs:List.Sublist x w):VO x:=by
 have q:=MA cM hs
 exact ⟨Nat.le_trans hs.length_le h.n,fun V hV=>h.v V (hs.subset hV),Nat.le_trans q.length_le h.al,fun V hV=>h.a V (hs.subset hV),h.nd.sublist (q.map _)⟩
theorem jh {α:Type}{l:List α}{i:Nat}{x y:α}(h:y∈l.set i x):y∈l∨y=x:=List.mem_or_eq_of_mem_set h
theorem VO.set {w:aj}{P:List aN}(h:w.length≤8){v:Nat}{V:bY}(h1:∀X,X∈w→X.length≤64∧∀A,A∈X→GA A)(h2:V.length≤64∧∀A,A∈V→GA A)(hp:List.Perm ((w.set v V).flatMap cM) P)(hP:P.length≤1024∧(P.map (·.1)).Nodup):VO (w.set v V):=
 ⟨by rw[List.length_set];exact h,fun X hX=>(jh hX).elim (fun q=>(h1 X q).1) (fun q=>q▸h2.1),by rw[hp.length_eq];exact hP.1,fun X hX=>(jh hX).elim (fun q=>(h1 X q).2) (fun q=>q▸h2.2),((hp.map _).nodup_iff).2 hP.2⟩
def DV (w:aj)(i:Nat):aj:=w.take i++w.drop (i+1)
def wq (w:aj)(i k:Nat):aj:=(w.set i (gt w k)).set k (gt w i)
def aD (w:aj)(i j:Nat):aj:=w.set i ((gt w i).take j++(gt w i).drop (j+1))
def bP (w:aj)(i j k:Nat):aj:=(aD w i j).set k (gt (aD w i j) k++[gt (gt w i) j])
def aR (w:aj)(i j:Nat)(L:List aN):aj:=w.set i ((gt w i).set j ((gt (gt w i) j).1,L))
theorem VO.less {w:aj}(h:VO w)(i:Nat):VO (DV w i):=h.sub (zX w i)
theorem MB {α:Type}[Inhabited α](l:List α)(i k:Nat)(x:α)(hi:i< l.length):gt (l.set i x) k=if i=k then x else gt l k:=by
 unfold gt List.getD
 rw[List.getElem?_set]
 split
 . rename_i e;subst e;try rw[if_pos hi]
   rfl
 . rfl
theorem VO.turn {w:aj}(h:VO w){i k:Nat}(hi:i< w.length)(hk:k< w.length):VO (wq w i k):=by
 have hl:k< (w.set i (gt w k)).length:=by rw[List.length_set];exact hk
 have p1:=gV cM (gt w k) w i hi
 have p2:=gV cM (gt w i) (w.set i (gt w k)) k hl
 have e:gt (w.set i (gt w k)) k=gt w k:=by rw[MB _ _ _ _ hi];split<;>rfl
 rw[e] at p2
 have p3:List.Perm ((wq w i k).flatMap cM) (w.flatMap cM):=by
  have:=(p2.trans p1)
  exact (List.perm_append_right_iff _).1 this
 refine VO.set (w:=w.set i (gt w k)) (by rw[List.length_set];exact h.n) (fun X hX=>?_) ⟨h.v _ (ba w i hi),h.a _ (ba w i hi)⟩ p3 ⟨h.al,h.nd⟩
 rcases jh hX with q|rfl
 . exact ⟨h.v X q,h.a X q⟩
 . exact ⟨h.v _ (ba w k hk),h.a _ (ba w k hk)⟩
section
variable {w:aj} {i j:Nat}
theorem MC (hi:i< w.length)(hj:j< (gt w i).length):List.Perm ((aD w i j).flatMap cM++(gt (gt w i) j).2) (w.flatMap cM):=by
 have p1:=gV cM ((gt w i).take j++(gt w i).drop (j+1)) w i hi
 have p2:List.Perm (cM ((gt w i).take j++(gt w i).drop (j+1))++(gt (gt w i) j).2) (cM (gt w i)):=zW (fun A:fH=>A.2) (gt w i) j hj
 have p3:List.Perm ((aD w i j).flatMap cM++(gt (gt w i) j).2++cM ((gt w i).take j++(gt w i).drop (j+1))) (w.flatMap cM++cM ((gt w i).take j++(gt w i).drop (j+1))):=by
  refine List.Perm.trans ?_ p1
  rw[List.append_assoc]
  exact (List.perm_append_comm.trans p2).append_left _
 exact (List.perm_append_right_iff _).1 p3
theorem VS.cut (h:VS w)(hi:i< w.length)(hj:j< (gt w i).length):VS (aD w i j):=by
 have hs:=zX (gt w i) j
 have hV:=ba w i hi
 have p:=MC hi hj
 have hlen:=p.length_eq
 rw[List.length_append] at hlen
 have h1:=h.v _ hV
 have h2:=h.n
 have h3:=h.al
 have q:∀X,X∈aD w i j→X.length≤4∧∀A,A∈X→GA A:=fun X hX=>by
  rcases jh hX with q|rfl
  . exact ⟨h.v X q,h.o.a X q⟩
  . exact ⟨Nat.le_trans hs.length_le h1,fun A hA=>h.o.a _ hV A (hs.subset hA)⟩
 refine ⟨⟨?_,fun X hX=>by have:=(q X hX).1;omega,by omega,fun X hX=>(q X hX).2,?_⟩,?_,fun X hX=>(q X hX).1,by omega⟩
 . show (w.set i _).length≤8;rw[List.length_set];omega
 . have:=((p.map (·.1)).nodup_iff).2 h.o.nd
   rw[List.map_append] at this
   exact this.sublist (List.sublist_append_left _ _)
 . show (w.set i _).length≤4;rw[List.length_set];omega
theorem VS.mov (h:VS w)(hi:i< w.length)(hj:j< (gt w i).length){k:Nat}(hk:k< w.length):VO (bP w i j k):=by
 have hc:=h.cut hi hj
 have hkc:k< (aD w i j).length:=by show k< (w.set i _).length;rw[List.length_set];exact hk
 have hV:=ba _ k hkc
 have hA:=ba (gt w i) j hj
 have p1:=gV cM (gt (aD w i j) k++[gt (gt w i) j]) (aD w i j) k hkc
 have e:cM (gt (aD w i j) k++[gt (gt w i) j]) =cM (gt (aD w i j) k)++(gt (gt w i) j).2:=by
  show List.flatMap _ _=_;rw[List.flatMap_append];simp[cM]
 rw[e] at p1
 have p2:List.Perm ((bP w i j k).flatMap cM) (w.flatMap cM):=by
  have q:List.Perm ((bP w i j k).flatMap cM++cM (gt (aD w i j) k)) (((aD w i j).flatMap cM++(gt (gt w i) j).2)++cM (gt (aD w i j) k)):=by
   refine p1.trans ?_
   rw[List.append_assoc]
   exact List.perm_append_comm.append_left _
  exact ((List.perm_append_right_iff _).1 q).trans (MC hi hj)
 have h4:=hc.v _ hV
 have h5:=hc.n
 refine VO.set (w:=aD w i j) (by omega) (fun X hX=>⟨by have:=hc.v X hX;omega,hc.o.a X hX⟩) ⟨by rw[List.length_append,List.length_singleton];omega,fun A hA'=>?_⟩ p2 ⟨h.o.al,h.o.nd⟩
 rcases List.mem_append.1 hA' with q|q
 . exact hc.o.a _ hV A q
 . rw[List.mem_singleton] at q;subst q;exact h.o.a _ (ba w i hi) _ hA
theorem Qx (hi:i< w.length)(hj:j< (gt w i).length){L:List aN}{p:aN}(hL:List.Perm L (p:: (gt (gt w i) j).2)):List.Perm ((aR w i j L).flatMap cM) (p::w.flatMap cM):=by
 have p1:=gV cM ((gt w i).set j ((gt (gt w i) j).1,L)) w i hi
 have p2:List.Perm (cM ((gt w i).set j ((gt (gt w i) j).1,L))++(gt (gt w i) j).2) (cM (gt w i)++L):=gV (fun A:fH=>A.2) _ (gt w i) j hj
 have p3:List.Perm (cM ((gt w i).set j ((gt (gt w i) j).1,L))) (p::cM (gt w i)):=by
  have:List.Perm (cM ((gt w i).set j ((gt (gt w i) j).1,L))++(gt (gt w i) j).2) ((p::cM (gt w i))++(gt (gt w i) j).2):=by
   refine p2.trans ((hL.append_left _).trans ?_)
   exact List.perm_middle
  exact (List.perm_append_right_iff _).1 this
 have p4:List.Perm ((aR w i j L).flatMap cM++cM (gt w i)) ((p::w.flatMap cM)++cM (gt w i)):=by
  refine p1.trans ((p3.append_left _).trans ?_)
  exact List.perm_middle
 exact (List.perm_append_right_iff _).1 p4
theorem VS.add (h:VS w)(hi:i< w.length)(hj:j< (gt w i).length){L:List aN}{p:aN}(hL:List.Perm L (p:: (gt (gt w i) j).2))(hp:cI p=true∧PZ 1000 p)(hn:∀q,q∈w.flatMap cM→q.1≠p.1)(hpl:jg L=true):VO (aR w i j L):=by
 have hV:=ba w i hi
 have hA:=ba _ j hj
 have hG:=h.o.a _ hV _ hA
 have h1:=h.v _ hV
 have h2:=h.n
 have h3:=h.al
 refine VO.set (w:=w) (by omega) (fun X hX=>⟨by have:=h.v X hX;omega,h.o.a X hX⟩) ⟨by rw[List.length_set];omega,fun A hA'=>?_⟩ (Qx hi hj hL) ⟨by rw[List.length_cons];omega,?_⟩
 . rcases jh hA' with q|rfl
   . exact h.o.a _ hV A q
   . refine ⟨hG.1,hpl,hG.2.2.1,fun q hq=>?_⟩
     rcases List.mem_cons.1 (hL.mem_iff.1 hq) with rfl|hq
     . exact hp
     . exact hG.2.2.2 q hq
 . rw[List.map_cons,List.nodup_cons]
   refine ⟨fun hm=>?_,h.o.nd⟩
   obtain ⟨q,hq,e⟩:=List.mem_map.1 hm
   exact hn q hq e
end
theorem tH {l:List aN}{i:Nat}(h:jg l=true)(hi:i< l.length):jt l i=true:=List.all_eq_true.1 h i (List.mem_range.2 hi)
theorem Da {l:List aN}{p:aN}(h:jg l=true)(h0:0< l.length)(h1: (gt l (l.length - 1)).2.1≠((2:Nat):Int)):jg (l++[p]) =true:=oY fun i hi=>by
 rw[List.length_append,List.length_singleton] at hi
 by_cases e:i< l.length
 . rw[uZ l p i e];exact tH h e
 . obtain rfl:i=l.length:=by omega
   unfold jt
   have:gt (l++[p]) (l.length - 1) =gt l (l.length - 1):=by
    unfold gt List.getD;rw[List.getElem?_append_left (by omega)]
   rw[this,decide_eq_false h1,decide_eq_false (show ¬l.length=0 by omega)];simp
theorem Dc {l:List aN}{p:aN}(h:jg l=true)(h1:p.2.1≠((2:Nat):Int))(h2:p.2.1≠((1:Nat):Int)):jg (p::l) =true:=oY fun i hi=>by
 rw[List.length_cons] at hi
 rcases i with _|_|i
 . unfold jt
   rw[show gt (p::l) 0=p from rfl,decide_eq_false h2];rfl
 . have:=tH h (show 0< l.length by omega)
   unfold jt at this ⊢
   have e0:gt (p::l) (0+1) =gt l 0:=rfl
   rw[e0]
   have q:decide ((gt l 0).2.1= ((1:Nat):Int)) =false:=by simpa using this
   rw[q];rfl
 . have:=tH h (show i+1< l.length by omega)
   unfold jt at this ⊢
   have e0:gt (p::l) (i+1+1) =gt l (i+1):=rfl
   have e1:gt (p::l) (i+1+1 - 1) =gt l i:=rfl
   rw[e0,e1]
   simpa using this
theorem zY (l:List Int):VS (js l):=by
 have h1:=pR l
 have h2:=dO l 0 (m:=4) (by decide)
 have h3:=Mb l
 rw[j4] at h3
 have hv:=zT l (1+bR l 0 4 / 3)
 have hz:=zN l (1+bR l 0 4 / 3)
 have hn:=zz l
 unfold d4 at hn
 rw[j4] at hn
 refine ⟨⟨by omega,fun V hV=>by have:=(hv V hV).1;omega,by omega,fun V hV A hA=>?_,hn⟩,by omega,fun V hV=>by have:=(hv V hV).1;omega,by omega⟩
 have a1:=(hv V hV).2 A hA
 have a2:=(hz V hV).2 A hA
 exact ⟨a1.1,a1.2.2,a2.1,fun p hp=>⟨a1.2.1 p hp,a2.2.2 p hp⟩⟩
theorem HA (l:List Int):∀q,q∈ (js l).flatMap cM→q.1≠(((5:Nat):Int),((63:Nat):Int),((1023:Nat):Int)):=fun q hq e=>by
 have h1:=pQ l
 unfold d4 at h1
 rw[j4] at h1
 have h2:q.1∈ ((js l).flatMap cM).map (·.1):=List.mem_map.2 ⟨q,hq,rfl⟩
 rw[h1,List.mem_map] at h2
 obtain ⟨n,hn,h2⟩:=h2
 rw[e] at h2
 have: ((0:Nat):Int) = ((5:Nat):Int):=congrArg Prod.fst h2
 omega
end Go.Sx
namespace Go.Sx
open Go.RowKit Go.Proofs
set_option maxRecDepth 100000
set_option maxHeartbeats 8000000
set_option maxRecDepth 100000
theorem zO (l:List aj)(i:Nat)(h:i< l.length):fv ((cl lX l).drop i) 0 1=some (.agg [sl vC .no (gt l i)]):=by
 have e: (cl lX l).drop i=cl lX (l.drop i):=by
  have:=fL (f:=lX) l i
  rw[Nat.mul_one] at this;exact this
 rw[e,List.drop_eq_getElem_cons h,cS]
 have:gt l i=l[i]:=by simp[gt,List.getD,List.getElem?_eq_getElem h]
 rw[this]
 rfl
attribute [go_sem high] zO
end Go.Sx
namespace Go.Sx
open Go.RowKit
structure MkN (P:Program) (gl:Nat→C) (f:Nat) where
 args:Nat→List C
 r:Nat→C
 Y:Nat→Hp
 nr:∀n,noRefs 0 (args n) =true
 fc:∀n,FC P gl f (args n) [] (r n) (Y n)
section
variable {P:Program} {gl:Nat→C} {f:Nat}
noncomputable def MkN.tab (S:MkN P gl f)(hp:Nat→List C→Hp→Option (C×Hp)):Nat→List C→Hp→Option (C×Hp):=fun g xs h=>open Classical in
 if g=f∧xs=S.args h.length∧OkH h then some (bU (h.length+ ·) (S.r h.length),h++dn h.length (S.Y h.length)) else hp g xs h
theorem MkN.look (S:MkN P gl f)(hp:Nat→List C→Hp→Option (C×Hp))(pre:Hp)(h1:OkH pre):
 S.tab hp f (S.args pre.length) pre=some (bU (pre.length+ ·) (S.r pre.length),pre++dn pre.length (S.Y pre.length)):=if_pos ⟨rfl,rfl,h1⟩
theorem Cp {km:TypeId→Value→Bool}{pu:Nat→List C→Option C}{hp:Nat→List C→Hp→Option (C×Hp)}{N M:Nat}(hcx:CxOK ⟨P,N,gl,pu,hp,fun _=>false,km,true⟩)(S:MkN P gl f):
 CxOK ⟨P,M,gl,pu,S.tab hp,fun _=>false,km,true⟩:=by
 refine ⟨hcx.glo,hcx.pu,fun g xs h c k' hc=>?_,hcx.km⟩
 by_cases e:g=f∧xs=S.args h.length∧OkH h
 . obtain ⟨rfl,e2,e3⟩:=e
   have hc:S.tab hp g xs h=some (c,k'):=hc
   subst e2
   rw[S.look hp h e3] at hc
   cases hc
   have q:=FC.pre (S.fc h.length) h e3 (fun o ho=>by cases ho) (S.nr h.length) (fun o ho=>by cases ho) (Nat.zero_le _) hcx.glo
   rw[bks_nr _ _ (S.nr h.length),show dn h.length ([]:Hp) = [] from rfl,List.append_nil] at q
   exact q
 . have hc:S.tab hp g xs h=some (c,k'):=hc
   unfold MkN.tab at hc
   rw[if_neg e] at hc
   exact hcx.hp g xs h c k' hc
end
end Go.Sx
namespace Go.Sx
open Go.RowKit Go.Proofs
theorem tI {α:Type}{l:List α}{k:Nat}(h:k< l.length):l.length - 1= (l.take k++l.drop (k+1)).length:=by rw[List.length_append,List.length_take,List.length_drop];omega
theorem wt {α:Type}(f:α→List C){s:Nat}[hf:Cel f s]{l:List α}{k:Nat}(h:k< l.length)(y:Nat):fS (cl f (l.take k++l.drop (k+1))) (l.length - 1) (s,y) =sl f .no (l.take k++l.drop (k+1)):=jQ f y _ _ (tI h)
theorem wu {α:Type}(f:α→List C){s:Nat}[hf:Cel f s]{l:List α}{k:Nat}(h:k< l.length)(y:Nat):fS (cl f (l.take k++l.drop (k+1)++l.drop (l.length - 1))) (l.length - 1) (s,y) =sl f .no (l.take k++l.drop (k+1)):=by
 have e:=tI h
 have hl:=aw (f:=f) (l.take k++l.drop (k+1))
 have hl2:=aw (f:=f) (l.take k++l.drop (k+1)++l.drop (l.length - 1))
 have hl3: (l.take k++l.drop (k+1)++l.drop (l.length - 1)).length= (l.take k++l.drop (k+1)).length+(l.drop (l.length - 1)).length:=List.length_append
 rw[hl3,Nat.add_mul] at hl2
 unfold fS
 simp only[]
 rw[if_pos (by rw[hl2,e];omega),iZ,List.take_append_of_le_length (by rw[hl,e];exact Nat.le_refl _),List.take_of_length_le (by rw[hl,e];exact Nat.le_refl _),e];rfl
theorem qN {α:Type}(f:α→List C){s:Nat}[hf:Cel f s](y:Nat)(z:List Value)(k:Nat)(l:List α)(h:z.length=s∧z.all (·.oneCell') =true∧k< l.length∧l.length≤1000000∧y≤1000):
 yX s y z k ((k+1)*s) (l.length - (k+1)) (some (cl f l)) =some (cl f (l.drop (k+1))):=by
 obtain ⟨h1,h2,h3,h4,h5⟩:=h
 have hl:=aw (f:=f) l
 have hd:=aw (f:=f) (l.drop (k+1))
 rw[List.length_drop] at hd
 have e0: (k+1)*s+(l.length - (k+1))*s=l.length*s:=by rw[←Nat.add_mul];congr 1;omega
 have e: ((List.drop ((k+1)*s) (cl f l)).take ((l.length - (k+1))*s)).map C.noR=cl f (l.drop (k+1)):=by
  rw[fL,List.take_of_length_le (by omega),eF]
 have hb: (k+(l.length - (k+1)))*y≤1000000*1000:=Nat.mul_le_mul (by omega) h5
 unfold yX
 simp only[Option.bind_some]
 rw[e,if_pos ⟨by omega,by simp only[decide_eq_true_eq];exact ⟨hd,hf.pos,h1,by omega,by omega,h2⟩⟩]
theorem DW (j:Nat)(S:aj)(h:j< S.length∧S.length≤1000000):yX 1 24 [.slice none 0 0] j (j+1) (S.length - (j+1)) (some (cl vC S)) =some (cl vC (S.drop (j+1))):=by
 have:=qN vC 24 [.slice none 0 0] j S ⟨rfl,rfl,h.1,h.2,by omega⟩
 rwa [Nat.mul_one] at this
theorem rn (j:Nat)(S:bY)(h:j< S.length∧S.length≤1000000):yX 2 40 [str [],.slice none 0 0] j ((j+1)*2) (S.length - (j+1)) (some (cl aC S)) =some (cl aC (S.drop (j+1))):=qN aC 40 _ j S ⟨rfl,rfl,h.1,h.2,by omega⟩
section
variable (cx:Cx) (apps:List Nat) (dsts:List (Option Nat)) (l:List Oper) (id':Nat) (d:Option Nat) (e:List (Nat×C)) (h:Hp) (fs:List FP) (K:List FP→St→Prop)
theorem p5 {α:Type}(f:α→List C){s:Nat}[hf:Cel f s](e' b k:Nat)(xs:List α)(hk:k< xs.length∧(k≠0∨xs.length=1)):
 gf cx apps dsts l id' d e h fs K b k (s,e') (xs.length - (k+1)) (cl f (xs.drop (k+1))) (some (cl f xs)) =run cx apps dsts l id' (dU d (.gv b (xs.length - 1) (s,e')) e) (h.set b (some (cl f (xs.take k++xs.drop (k+1)++xs.drop (xs.length - 1))))) ((4,0)::fs) K:=by
 have hl:=aw (f:=f) xs
 have hd:=aw (f:=f) (xs.drop (k+1))
 rw[List.length_drop] at hd
 unfold gf
 simp only[]
 rw[if_pos ⟨by rw[hl];exact Nat.mul_le_mul_right s (by omega),by omega⟩,show k+(xs.length - (k+1)) =xs.length - 1 by omega,eF]
 have e1:splice (cl f xs) (k*s) (cl f (xs.drop (k+1))) =cl f (xs.take k++xs.drop (k+1)++xs.drop (xs.length - 1)):=by
  unfold splice
  rw[hd,←Nat.add_mul,show k+(xs.length - (k+1)) =xs.length - 1 by omega,fL,jM,iZ,iZ]
 rw[e1]
theorem p6 {α:Type}(f:α→List C){s:Nat}[hf:Cel f s](e' b k:Nat)(xs:List α)(hk:k=0∧1< xs.length):
 gf cx apps dsts l id' d e h fs K b k (s,e') (xs.length - (k+1)) (cl f (xs.drop (k+1))) (some (cl f xs)) =run cx apps dsts l id' (dU d (.gv h.length (xs.length - 1) (s,e')) e) (h.set b (some cO)++[some (cl f (xs.take k++xs.drop (k+1)))]) ((4,0)::fs) K:=by
 obtain ⟨rfl,h1⟩:=hk
 have hl:=aw (f:=f) xs
 have hp:=hf.pos
 have hm:s≤xs.length*s:=by
  have:=Nat.mul_le_mul_right s (show 1≤xs.length by omega)
  omega
 unfold gf
 simp only[]
 rw[if_neg (by omega),if_neg (by rw[hl];omega),if_pos True.intro,eF,Nat.zero_add,List.take_zero,List.nil_append]
end
theorem HB (n m:Nat)(V:bY)(q:Nat)(c:C)(h:q< V.length):dJ (fA n q m V) (q*2+1) [c] =some ((cl aC V).set (q*2+1) c,.val undef):=by
 have hl: (fA n q m V).length=V.length*2:=zD ..
 unfold dJ fA
 have hl2: ((cl aC V).set (q*2+1) (.gv (n+2) m (7,37))).length=V.length*2:=hl
 rw[if_pos (by rw[hl2];simp only[List.length_singleton];omega)]
 unfold splice
 rw[show ∀l:List C,l.take (q*2+1)++[c]++l.drop (q*2+1+[c].length) =l.take (q*2+1)++c::l.drop (q*2+1+1) from fun l=>by simp]
 have e:=List.set_eq_take_append_cons_drop (l:=(cl aC V).set (q*2+1) (.gv (n+2) m (7,37))) (i:=q*2+1) (a:=c)
 rw[if_pos (by rw[hl2];omega)] at e
 rw[←e,List.set_set]
theorem HC (n m:Nat)(V:bY):fA n V.length m V=cl aC V:=by unfold fA;rw[List.set_eq_of_length_le];rw[aw (f:=aC)];omega
theorem HD (n m:Nat)(w:aj):fV n w.length m w=cl vC w:=by unfold fV;rw[List.set_eq_of_length_le];rw[aw (f:=vC)];omega
theorem HE {α:Type}[Inhabited α](l:List α):gt l l.length=default:=by unfold gt List.getD;rw[List.getElem?_eq_none (Nat.le_refl _)];rfl
def jD (w:aj)(i k:Nat):List aj:=[DV w i,wq w i k]
def DX (l:List aN):Prop:=0< l.length∧¬ (gt l (l.length - 1)).2.1= ((2:Nat):Int)
instance (l:List aN):Decidable (DX l):=inferInstanceAs (Decidable (_∧_))
def wv (w:aj)(i j:Nat)(p:aN):List aj:=if DX (gt (gt w i) j).2∧¬p.2.1= ((2:Nat):Int) then [aR w i j ((gt (gt w i) j).2++[p])] else []
def ww (w:aj)(i j:Nat)(p:aN):List aj:=if ¬p.2.1= ((2:Nat):Int)∧¬p.2.1= ((1:Nat):Int) then [aR w i j (p:: (gt (gt w i) j).2)] else []
def lZ (w:aj)(i j k:Nat)(p:aN):List aj:=jD w i k++[aD w i j,bP w i j k]++wv w i j p++ww w i j p
theorem HF {w:aj}(h:VS w){i j k:Nat}(hi:i< w.length)(hk:k< w.length)(hj:j< (gt w i).length){p:aN}(hp:cI p=true∧PZ 1000 p)(hn:∀q,q∈w.flatMap cM→q.1≠p.1):∀x,x∈lZ w i j k p→VO x:=by
 intro x hx
 have hG:=(h.o.a _ (ba w i hi) _ (ba _ j hj)).2.1
 simp only[lZ,jD,List.mem_append,List.mem_cons,List.not_mem_nil,or_false] at hx
 rcases hx with ((hx|hx) |hx) |hx
 . rcases hx with rfl|rfl
   . exact h.o.less i
   . exact h.o.turn hi hk
 . rcases hx with rfl|rfl
   . exact (h.cut hi hj).o
   . exact h.mov hi hj hk
 . unfold wv at hx
   split at hx
   . rename_i q
     rw[List.mem_singleton] at hx
     subst hx
     exact h.add hi hj (List.perm_append_comm) hp hn (Da hG q.1.1 q.1.2)
   . cases hx
 . unfold ww at hx
   split at hx
   . rename_i q
     rw[List.mem_singleton] at hx
     subst hx
     exact h.add hi hj (List.Perm.refl _) hp hn (Dc hG q.1 q.2)
   . cases hx
theorem HG {w:aj}(h:VS w){i k:Nat}(hi:i< w.length)(hk:k< w.length):∀x,x∈jD w i k→VO x:=by
 intro x hx
 simp only[jD,List.mem_cons,List.not_mem_nil,or_false] at hx
 rcases hx with rfl|rfl
 . exact h.o.less i
 . exact h.o.turn hi hk
theorem HH (w:aj)(i j k:Nat)(p:aN):∃PA:Nat→List aj,(∀a,a≤j→PA a=jD w i k)∧(∀a,j< a→PA a=lZ w i j k p)∧∀a,¬a=j→PA a=PA (a+1):=
 ⟨fun a=>if a≤j then jD w i k else lZ w i j k p,fun a h=>if_pos h,fun a h=>if_neg (by omega),fun a h=>by
   show ite _ _ _=ite _ _ _
   by_cases e:a≤j
   . rw[if_pos e,if_pos (by omega)]
   . rw[if_neg e,if_neg (by omega)]⟩
theorem bu {w:aj}{i j k:Nat}{p:aN}{PA:Nat→List aj}(h1:∀a,a≤j→PA a=jD w i k)(h2:∀a,j< a→PA a=lZ w i j k p){T H:List aj}(hT:wv w i j p=T)(hH:ww w i j p=H):PA j++[aD w i j,bP w i j k]++T++H=PA (j+1):=by
 rw[h1 j (Nat.le_refl _),h2 (j+1) (Nat.lt_succ_self _),←hT,←hH];rfl
theorem u2 {w:aj}(h:VS w){i j k:Nat}(hi:i< w.length)(hk:k< w.length){p:aN}(hp:cI p=true∧PZ 1000 p)(hn:∀q,q∈w.flatMap cM→q.1≠p.1){PA:Nat→List aj}(h1:∀a,a≤j→PA a=jD w i k)(h2:∀a,j< a→PA a=lZ w i j k p):∀x,x∈PA (gt w i).length→VO x:=by
 by_cases e: (gt w i).length≤j
 . rw[h1 _ e];exact HG h hi hk
 . rw[h2 _ (by omega)];exact HF h hi hk (by omega) hp hn
theorem j5 {w:aj}{i j k:Nat}{p:aN}{PA:Nat→List aj}(h1:∀a,a≤j→PA a=jD w i k)(h2:∀a,j< a→PA a=lZ w i j k p)(a:Nat): (PA a).length≤6:=by
 by_cases e:a≤j
 . rw[h1 _ e];show 2≤6;decide
 . rw[h2 _ (by omega)]
   unfold lZ wv ww
   split<;>split<;>simp[jD]
theorem MD {ok:Nat→Bool}{v m:Nat}{w:aj}{V:bY}(h:m=V.length):fzCs ok 4 (cl aC V) (fV 3 v m w) =cl vC (w.set v V):=by
 unfold fV
 rw[iM,iJ,lH,if_pos rfl,j0 V m h,e5]
theorem ME {n v m:Nat}{w:bY}(h:v< w.length): (fA n v m w)[v*2+1]? =some (.gv (n+2) m (7,37)):=by
 unfold fA
 rw[List.getElem?_set_self (by rw[aw (f:=aC)];omega)]
attribute [go_sem high] ME
theorem Dd (q m:Nat)(V:bY): (fA 3 q m V).set (q*2+1) (.gv 5 m (7,37)) =fA 3 q m V:=by unfold fA;rw[List.set_set]
attribute [go_sem high] Dd
theorem a8 (w:aj)(v m:Nat):fS (fV 3 v m w) w.length (1,46) = .sl .no w.length (fV 3 v m w):=zK w v _
theorem HI (ok:Nat→Bool)(b:Nat)(ys:List C)(n v m:Nat)(w:aj):aU ok b ys (.sl .no n (fV 3 v m w)) = .sl .no n (fzCs ok b ys (fV 3 v m w)):=by simp only[aU]
theorem bM (n:Nat)(X:aj)(h:n=X.length):C.sl .no n (cl vC X) =sl vC .no X:=by subst h;rfl
theorem qO (ok:Nat→Bool)(x:C):∀ (l:List C)(i:Nat),scrs ok (l.set i x) = (scrs ok l).set i (cX ok x)
 | [],_=>by simp only[List.set_nil,scrs]
 |y::l,0=>by simp only[List.set_cons_zero,scrs]
 |y::l,i+1=>by simp only[List.set_cons_succ,scrs,qO ok x l i]
theorem De {ok:Nat→Bool}{v m:Nat}{w:aj}(h:ok 4=true):scrs ok (fV 3 v m w) =fV 3 v m w:=by
 unfold fV
 rw[qO,pH,y4,if_pos h]
theorem HJ (P:Program)(a1 b1:Nat)(z1:List Value)(e:TypeId)(n v m:Nat)(w:aj)(i:C):nq P (some ⟨.slice e,a1,b1,z1⟩) (.sl .no n (fV 3 v m w)) i=yj (td P e) (d8 i n) n (fV 3 v m w):=rfl
theorem HK (u:TypeDesc)(y:Nat)(z:List Value)(w:aj)(v m:Nat)(h:v< w.length):yj (some ⟨u,1,y,z⟩) (some v) w.length (fV 3 v m w) =some (vp (.kp ((fV 3 v m w).drop v))):=by
 show (if (fV 3 v m w).length=w.length*1∧fV 3 v m w≠[] then some (vp (.kp ((fV 3 v m w).drop (v*1)))) else none) =_
 rw[if_pos ⟨by rw[tz,Nat.mul_one],Ht (k:=v) (by rw[tz];exact h)⟩,Nat.mul_one]
attribute [go_sem high] HJ HK
attribute [go_sem] De
attribute [go_sem high] HI
theorem HL {ok:Nat→Bool}{b v m:Nat}{w:aj}{ys:List C}(hb:¬4=b)(h:ok 4=true):fzCs ok b ys (fV 3 v m w) =fV 3 v m w:=zJ (n:=3) hb h
theorem HM {ok:Nat→Bool}{b v m:Nat}{w:bY}{ys:List C}(hb:¬5=b)(h:ok 5=true):fzCs ok b ys (fA 3 v m w) =fA 3 v m w:=by
 unfold fA
 rw[iM,iJ,lH,if_neg hb,if_pos h]
attribute [go_sem] HL HM
attribute [go_sem] MD
theorem HN (y:Nat)(a:aj)(u:TypeDesc):fE (some ⟨u,1,y,[.slice none 0 0]⟩) 1 [(0,.agg [sl vC .no a])] =some (vp (sl lX .full [a])):=rfl
theorem HO (y:Nat)(a b:aj)(u:TypeDesc):fE (some ⟨u,1,y,[.slice none 0 0]⟩) 2 [(0,.agg [sl vC .no a]),(1,.agg [sl vC .no b])] =some (vp (sl lX .full [a,b])):=rfl
theorem dH (w:aj)(i j:Nat): (aD w i j).length=w.length:=List.length_set ..
theorem HP (w:aj)(i j k:Nat): (bP w i j k).length= (aD w i j).length:=List.length_set ..
theorem kM (w:aj)(i j k:Nat):w.length= (bP w i j k).length:=(HP w i j k).symm▸(dH w i j).symm
theorem ca {α:Type}(l:List α):max (l.length - 1) 0=l.length - 1:=by omega
theorem zZ (l:List Int)(a:Nat)(id:ID)(h:gO id=true):cI (fT l a id) =true:=by
 have q:=tG l a 0 (by decide)
 unfold cI at q ⊢
 simp only[Bool.and_eq_true] at q ⊢
 exact ⟨⟨⟨⟨h,q.1.1.1.2⟩,q.1.1.2⟩,q.1.2⟩,q.2⟩
theorem Qy (m:List Int):cI (fT m 0 (((5:Nat):Int),((63:Nat):Int),((1023:Nat):Int))) =true∧PZ 1000 (fT m 0 (((5:Nat):Int),((63:Nat):Int),((1023:Nat):Int))):=
 ⟨zZ m 0 _ (by decide),(uW m 0 _ ⟨⟨by decide,by decide⟩,⟨by decide,by decide⟩,⟨by decide,by decide⟩⟩).mono (by decide)⟩
theorem MF (w:aj)(i:Nat)(V:bY)(h:i< w.length):dJ (cl vC w) i (vC V) =some (cl vC (w.set i V),.val undef):=(zI w i (sl aC .no V) h).trans (by rw[e5])
attribute [go_sem] HO
attribute [go_sem high] HN
attribute [go_sem high] MF zO
attribute [go_sem high] HB
def gW (w:aj)(i j k:Nat):Nat→aj×Nat×Nat
 |1=>(w,w.length,0)
 |2=>(w,i,(gt w i).length)
 |3=>(aD w i j,k,(gt (aD w i j) k).length)
 |_=>(w,i,j)
section
variable {gl:Nat→C} {pu:Nat→List C→Option C}
noncomputable def mn {M:Nat}(hcx:CxOK (aS gl M pu))(w:aj)(i j k:Nat)(hw:WG w)(hc:WG (aD w i j)):MkN Tryd.prog gl 20 where
 args n:=[.agg [sl vC .no (gW w i j k n).1]]
 r n:= .agg [.gv 0 (gW w i j k n).1.length (1,46)]
 Y n:=tD (gW w i j k n).1 (gW w i j k n).2.1 (gW w i j k n).2.2++[some [.gv 0 (gW w i j k n).1.length (1,46)]]
 nr _:=by simp only[noRefs,ag,aI,Bool.and_self]
 fc n:=DU hcx _ _ _ (by
  rcases n with _|_|_|_|n
  . exact hw
  . exact hw
  . exact hw
  . exact hc
  . exact hw)
theorem wx {M:Nat}(hcx:CxOK (aS gl M pu))(w:aj)(i j k:Nat)(hw:WG w)(hc:WG (aD w i j))(hp:Nat→List C→Hp→Option (C×Hp))(pre:Hp)(h:OkH pre)(x:aj)(v a:Nat)(hx:gW w i j k pre.length= (x,v,a)): (mn hcx w i j k hw hc).tab hp 20 [.agg [sl vC .no x]] pre=some (.agg [.gv pre.length x.length (1,46)],pre++[some (fV pre.length v (gt x v).length x),some (fA pre.length a (gt (gt x v) a).2.length (gt x v)),some (cl pC (gt (gt x v) a).2),some [.gv pre.length x.length (1,46)]]):=by
 have e:=(mn hcx w i j k hw hc).look hp pre h
 have e0: (mn hcx w i j k hw hc).args pre.length= [.agg [sl vC .no x]]:=by show [C.agg [sl vC .no (gW w i j k pre.length).1]] =_;rw[hx]
 have e1:dn pre.length ((mn hcx w i j k hw hc).Y pre.length) = [some (fV pre.length v (gt x v).length x),some (fA pre.length a (gt (gt x v) a).2.length (gt x v)),some (cl pC (gt (gt x v) a).2),some [.gv pre.length x.length (1,46)]]:=by
  show dn pre.length (tD (gW w i j k pre.length).1 (gW w i j k pre.length).2.1 (gW w i j k pre.length).2.2++[some [.gv 0 (gW w i j k pre.length).1.length (1,46)]]) =_
  rw[hx]
  show [some (bkCs _ (fV 0 v (gt x v).length x)),some (bkCs _ (fA 0 a (gt (gt x v) a).2.length (gt x v))),some (bkCs _ (cl pC (gt (gt x v) a).2)),some [C.gv (pre.length+0) x.length (1,46)]] =_
  rw[Oo,Oq,sV]
  rfl
 have e2: (mn hcx w i j k hw hc).r pre.length= .agg [.gv 0 x.length (1,46)]:=by show C.agg [.gv 0 (gW w i j k pre.length).1.length (1,46)] =_;rw[hx]
 rw[e0,e1,e2] at e
 exact e
end
end Go.Sx
