/-
   And what follows.
-/
import Derived.ChangeSame
import Derived.ChangeVars
import Derived.ChangeStays
import Derived.ChangeOld
import Derived.ChangeArms
import Derived.OpenShut
import Derived.RowKit
import Derived.JoinedOf
import Derived.Handed
import Derived.LaidLaws
import Derived.LaidMore
import Derived.KernelRfl
import Derived.LaidHandle
import Derived.MakeChecks
import Derived.Stop.Joined
import Derived.Lib.SlBytesConst
import Derived.SizedLaws
import Derived.JoinedCond
import Derived.Deep.CondSized
import Derived.Below
import Derived.Test.YtmoaeemdlompaaaDoorPai
set_option linter.unusedSimpArgs false
set_option linter.unusedVariables false
namespace Go.Sx
open Go.RowKit
theorem HC {α:Type} [Inhabited α] (a:α) (l:List α) :gt (a::l) 0=a:=rfl
theorem x4 {α:Type} [Inhabited α] (a:α) (l:List α) (n:Nat) :gt (a::l) (n+1) =gt l n:=by simp[gt,List.getD]
theorem NI {α:Type} {f:α→List C} [hf:Cel f 1] (l:List α) (o n:Nat) (h:o+n≤l.length) :kj (cl f l) o n=some (.agg (cl f ((l.drop o).take n))) :=by
 have e1:=gy (f:=f) l o
 have e2:=je (f:=f) (l.drop o) n
 rw[Nat.mul_one] at e1 e2
 unfold kj
 rw[if_pos (by rw[cp (f:=f)];omega),e1,e2,fI]
def jv (cells:List C) :List (Nat×C)→Option Plan
 | [] =>some (vp (.agg cells))
 | (i,c) ::r=>match c.cells? with
   |some cs=>if cs.length=1∧i+1≤cells.length then jv (splice cells i cs) r else none
   |none=>none
theorem zB (y:Nat) : ∀ (parts:List (Nat×C)) (cells:List C),(gb (fun i=>some (i*1,1)) cells parts).map (fun cs=>vp (.agg cs)) =jv cells parts
 | [],cells=>rfl
 | (i,c) ::r,cells=>by
   unfold gb jv
   cases c.cells? with
   |none=>rfl
   |some cs=>
    simp only[Nat.mul_one]
    split
    · have:=zB y r (splice cells i cs)
      simpa only[Nat.mul_one] using this
    · rfl
def mP (de:Option TD) (z:List Value) (parts:List (Nat×C)) (q:Option Plan) :Option Plan:=match de with
 |some d=>if d.size=1∧z.all (·.oneCell') =true then jv (z.map .val) parts else q
 |none=>q
def Yt (P:Program) (n:Nat) (e:TypeId) (s y:Nat) (z:List Value) (parts:List (Nat×C)) :Option Plan:=lL P (some ⟨.array n e,s,y,z⟩) parts
theorem EZ (P:Program) (n:Nat) (e:TypeId) (s y:Nat) (z:List Value) (parts:List (Nat×C)) :lL P (some ⟨.array n e,s,y,z⟩) parts=mP (td P e) z parts (Yt P n e s y z parts) :=by
 unfold mP Yt
 cases hq:td P e with
 |none=>rfl
 |some d=>
  simp only[]
  split
  · rename_i h
    unfold lL
    simp only[h.2,Bool.true_eq_false,if_false,ke,hq,Option.map_some,Option.bind_some,h.1]
    exact zB 0 parts _
  · rfl
theorem sE (u:TypeDesc) (y n:Nat) (z:List Value) (v:Value) (parts:List (Nat×C)) (q:Option Plan) (h:v.oneCell'=true) :mP (some ⟨u,1,y,z⟩) (List.replicate n v) parts q=jv (List.replicate n (.val v)) parts:=by
 unfold mP
 simp only[]
 rw[if_pos ⟨trivial,by simp[h]⟩,List.map_replicate]
theorem HD (cells:List C) :jv cells [] =some (vp (.agg cells)) :=rfl
theorem TO (l:List (BitVec 32)) (i:Nat) (x:BitVec 32) (r:List (Nat×C)) (h:i< l.length) :jv (cl wC l) ((i,.val (cB x)) ::r) =jv (cl wC (l.set i x)) r:=by
 have e:=lN (f:=wC) l i x h
 rw[Nat.mul_one] at e
 have e2:splice (cl wC l) i [.val (cB x)] =cl wC (l.set i x) :=e
 show (if [C.val (cB x)].length=1∧i+1≤(cl wC l).length then jv (splice (cl wC l) i [.val (cB x)]) r else none) =_
 rw[if_pos ⟨rfl,by rw[cp (f:=wC)];omega⟩,e2]
theorem TP (l:List UInt8) (i:Nat) (x:UInt8) (r:List (Nat×C)) (h:i< l.length) :jv (cl bC l) ((i,.val (w8 x)) ::r) =jv (cl bC (l.set i x)) r:=by
 have e:=lN (f:=bC) l i x h
 rw[Nat.mul_one] at e
 have e2:splice (cl bC l) i [.val (w8 x)] =cl bC (l.set i x) :=e
 show (if [C.val (w8 x)].length=1∧i+1≤(cl bC l).length then jv (splice (cl bC l) i [.val (w8 x)]) r else none) =_
 rw[if_pos ⟨rfl,by rw[cp (f:=bC)];omega⟩,e2]
def fb (n:Nat) (cells:List C) :List (Nat×C)→Option Plan
 | [] =>some (vp (.sl .full n cells))
 | (i,c) ::r=>match c.cells? with
   |some cs=>if cs.length=1∧i+1≤cells.length then fb n (splice cells i cs) r else none
   |none=>none
theorem x5 (n:Nat) : ∀ (parts:List (Nat×C)) (cells:List C),(gb (fun i=>some (i*1,1)) cells parts).map (fun cs=>vp (.sl .full n cs)) =fb n cells parts
 | [],cells=>rfl
 | (i,c) ::r,cells=>by
   unfold gb fb
   cases c.cells? with
   |none=>rfl
   |some cs=>
    simp only[Nat.mul_one]
    split
    · have:=x5 n r (splice cells i cs)
      simpa only[Nat.mul_one] using this
    · rfl
def jB (de:Option TD) (n:Nat) (parts:List (Nat×C)) :Option Plan:=match de with
 |some de=>if n*de.size≤65536∧n≤65536∧de.zero.length=de.size∧de.zero.all (·.oneCell') =true then
  (gb (fun i=>some (i*de.size,de.size)) (dG de.zero n) parts).map fun cs=>vp (.sl .full n cs) else none
 |none=>none
theorem HE (P:Program) (e:TypeId) (s y n:Nat) (z:List Value) (parts:List (Nat×C)) :mi P false (some ⟨.slice e,s,y,z⟩) n parts=jB (td P e) n parts:=rfl
theorem qG (v:Value) : ∀n,dG [v] n=List.replicate n (.val v)
 |0=>rfl
 |n+1=>by rw[List.replicate_succ,←qG v n];rfl
theorem tT (u:TypeDesc) (y n:Nat) (v:Value) (parts:List (Nat×C)) (h:v.oneCell'=true) (hn:n≤65536) :jB (some ⟨u,1,y,[v]⟩) n parts=fb n (List.replicate n (.val v)) parts:=by
 unfold jB
 simp only[Nat.mul_one,List.length_singleton,List.all_cons,List.all_nil,h,Bool.and_self,hn,and_self,if_true]
 rw[qG]
 have:=x5 n parts (List.replicate n (.val v))
 simpa only[Nat.mul_one] using this
theorem NJ (n:Nat) (l:List UInt8) (i:Nat) (x:UInt8) (r:List (Nat×C)) (h:i< l.length) :fb n (cl bC l) ((i,.val (w8 x)) ::r) =fb n (cl bC (l.set i x)) r:=by
 have e:=lN (f:=bC) l i x h
 rw[Nat.mul_one] at e
 have e2:splice (cl bC l) i [.val (w8 x)] =cl bC (l.set i x) :=e
 show (if [C.val (w8 x)].length=1∧i+1≤(cl bC l).length then fb n (splice (cl bC l) i [.val (w8 x)]) r else none) =_
 rw[if_pos ⟨rfl,by rw[cp (f:=bC)];omega⟩,e2]
theorem NK (n:Nat) (l:List (List UInt8)) (i:Nat) (x:List UInt8) (r:List (Nat×C)) (h:i< l.length) :fb n (cl sC l) ((i,.val (str x)) ::r) =fb n (cl sC (l.set i x)) r:=by
 have e:=lN (f:=sC) l i x h
 rw[Nat.mul_one] at e
 have e2:splice (cl sC l) i [.val (str x)] =cl sC (l.set i x) :=e
 show (if [C.val (str x)].length=1∧i+1≤(cl sC l).length then fb n (splice (cl sC l) i [.val (str x)]) r else none) =_
 rw[if_pos ⟨rfl,by rw[cp (f:=sC)];omega⟩,e2]
theorem E0 {α:Type} (f:α→List C) (n:Nat) (l:List α) (h:n=l.length) :fb n (cl f l) [] =some (vp (sl f .full l)) :=by
 subst h;rfl
theorem zC (n:Nat) :List.replicate n (C.val (str [])) =cl sC (List.replicate n []) :=by
 induction n with
 |zero=>rfl
 |succ n ih=>rw[List.replicate_succ,ih];rfl
theorem HF (cells cs:List C) (h:cs.length=cells.length) :fo cells 0 cs=some (cs,.val undef) :=by
 unfold fo splice
 rw[if_pos (by omega),List.take_zero,List.nil_append,Nat.zero_add,List.drop_of_length_le (by omega),List.append_nil]
theorem HG (cells:List C) (n:Nat) (h:cells.length=n) :kj cells 0 n=some (.agg (cells.map C.noR)) :=by
 subst h
 unfold kj
 rw[if_pos (by omega),List.drop_zero,List.take_of_length_le (Nat.le_refl _)]
theorem NL {α:Type} {f:α→List C} {s:Nat} [hf:Cel f s] (l:List α) (r:List C) (o n s' m:Nat) (ys:List C) (h:l.length*s≤o) :qF (cl f l++r) o n s' ys m= (qF r (o - l.length*s) n s' ys m).map fun q=> (cl f l++q.1,q.2) :=by
 have hl:=cp (f:=f) l
 unfold qF
 simp only[List.length_append,hl]
 rw[qD _ _ _ _ (by rw[hl];exact h),hl]
 by_cases hh:o+n*s'≤l.length*s+r.length
 · rw[if_pos hh,if_pos (by omega)];rfl
 · rw[if_neg hh,if_neg (by omega)];rfl
theorem NM {α:Type} {f:α→List C} [hf:Cel f 1] (l l':List α) (r:List C) (o n m:Nat) (h:o+n≤l.length) (h2:l'.length≤n) :qF (cl f l++r) o n 1 (cl f l') m=some (cl f (l.take o++l'++l.drop (o+l'.length))++r,.val (nI m)) :=by
 have:=Er (f:=f) l l' o
 rw[Nat.mul_one] at this
 have hl:=cp (f:=f) l
 have hl':=cp (f:=f) l'
 unfold qF
 rw[if_pos (by rw[List.length_append,hl];omega),qC _ _ _ _ (by rw[hl,hl'];omega),this]
def zc (z:List Value) :List C:=z.map .val
theorem TQ:zc [] = [] :=rfl
theorem NN (v:Value) (l:List Value) :zc (v::l) = .val v::zc l:=rfl
theorem TR (a b:List Value) :zc (a++b) =zc a++zc b:=by simp[zc]
theorem TT (n:Nat) (v:Value) :zc (List.replicate n v) =List.replicate n (.val v) :=by simp[zc]
def gV (z:List Value) :Bool:=z.all (·.oneCell')
theorem BK:gV [] =true:=rfl
theorem yL (v:Value) (l:List Value) :gV (v::l) = (v.oneCell' && gV l) :=rfl
theorem BL (a b:List Value) :gV (a++b) = (gV a && gV b) :=by simp[gV]
theorem BM (n:Nat) (v:Value) (h:v.oneCell'=true) :gV (List.replicate n v) =true:=by simp[gV,h]
def Yu (b:Bool) (cs:List C) :Option Plan:=if b then some (.new cs fun id=> .bp id 0) else none
theorem NO (u:TypeDesc) (s y:Nat) (z:List Value) :Eo (some ⟨u,s,y,z⟩) =Yu (gV z) (zc z) :=rfl
theorem HH (cs:List C) :Yu true cs=some (.new cs fun id=> .bp id 0) :=rfl
theorem HI (t:TypeId) (T:Option TD) :xQ false t T=Eo T:=by cases T<;>rfl
def qH (P:Program) :List Field→Option (List (Nat×Nat))
 | [] =>some []
 |fd::l=>match td P fd.type,qH P l with
  |some d,some r=>some ((fd.offset,d.size) ::r)
  |_,_=>none
theorem E1 (P:Program) : ∀l:List Field,(l.mapM fun f=> (td P f.type).map fun d=> (f.offset,d.size)) =qH P l
 | [] =>rfl
 |fd::l=>by
  rw[List.mapM_cons,E1 P l]
  simp only[qH,Option.bind_eq_bind,Option.pure_def]
  cases td P fd.type with
  |none=>rfl
  |some d=>cases qH P l<;>rfl
def TU (d:Option TD) (o:Nat) (r:Option (List (Nat×Nat))) :Option (List (Nat×Nat)) :=match d,r with
 |some d,some r=>some ((o,d.size) ::r)
 |_,_=>none
theorem NP (P:Program) :qH P [] =some [] :=rfl
theorem HJ (P:Program) (nm:String) (t:TypeId) (o:Nat) (em:Bool) (tg pp:String) (bo:Nat) (l:List Field) :qH P (⟨nm,t,o,em,tg,pp,bo⟩ ::l) =TU (td P t) o (qH P l) :=by
 simp only[qH,TU]
theorem HK (u:TypeDesc) (s y:Nat) (z:List Value) (o:Nat) (r:List (Nat×Nat)) :TU (some ⟨u,s,y,z⟩) o (some r) =some ((o,s) ::r) :=rfl
def layS (pl:List (Nat×Nat)) (cells:List C) :List (Nat×C)→Option Plan
 | [] =>some (vp (.agg cells))
 | (i,c) ::rest=>match pl[i]?,c.cells? with
   |some (off,size),some cs=>if cs.length=size∧off+size≤cells.length then layS pl (splice cells off cs) rest else none
   |_,_=>none
theorem zD (pl:List (Nat×Nat)) : ∀ (parts:List (Nat×C)) (cells:List C),(gb (fun i=>pl[i]?) cells parts).map (fun cs=>vp (.agg cs)) =layS pl cells parts
 | [],cells=>rfl
 | (i,c) ::r,cells=>by
   unfold gb layS
   cases pl[i]? with
   |none=>rfl
   |some p=>
    obtain ⟨off,size⟩ :=p
    cases c.cells? with
    |none=>rfl
    |some cs=>
     simp only[]
     split
     · exact zD pl r _
     · rfl
def HL (b:Bool) (pl:Option (List (Nat×Nat))) (cells:List C) (parts:List (Nat×C)) :Option Plan:=if b then (match pl with
 |some pl=>layS pl cells parts
 |none=>none) else none
theorem x6 (P:Program) (fs:List Field) (s y:Nat) (z:List Value) (parts:List (Nat×C)) :lL P (some ⟨.struct fs.toArray,s,y,z⟩) parts=HL (gV z) (qH P fs) (zc z) parts:=by
 unfold lL HL gV zc
 simp only[ke]
 by_cases h:z.all (·.oneCell') =true
 · rw[if_neg (by rw[h];decide),if_pos h,E1]
   cases qH P fs with
   |none=>rfl
   |some pl=>exact zD pl parts _
 · rw[if_pos (by simpa using h),if_neg h]
theorem E2 (pl:List (Nat×Nat)) (cells:List C) (parts:List (Nat×C)) :HL true (some pl) cells parts=layS pl cells parts:=rfl
def HM (pl:List (Nat×Nat)) (p:Option (Nat×Nat)) (cs:Option (List C)) (cells:List C) (r:List (Nat×C)) :Option Plan:=match p,cs with
 |some (off,size),some cs=>if cs.length=size∧off+size≤cells.length then layS pl (splice cells off cs) r else none
 |_,_=>none
def HN (pl:List (Nat×Nat)) (q:Option (List C×C)) (r:List (Nat×C)) :Option Plan:=match q with
 |some q=>layS pl q.1 r
 |none=>none
theorem HO (pl:List (Nat×Nat)) (cells:List C) :layS pl cells [] =some (vp (.agg cells)) :=rfl
theorem E3 (pl:List (Nat×Nat)) (cells:List C) (i:Nat) (c:C) (r:List (Nat×C)) :layS pl cells ((i,c) ::r) =HM pl (pl[i]?) c.cells? cells r:=by
 rw[layS.eq_def];rfl
theorem E4 (pl:List (Nat×Nat)) (off size:Nat) (cs cells:List C) (r:List (Nat×C)) (h:cs.length=size) :HM pl (some (off,size)) (some cs) cells r=HN pl (fo cells off cs) r:=by
 subst h
 unfold HM HN fo
 simp only[true_and]
 split<;>rfl
theorem E5 (pl:List (Nat×Nat)) (cells:List C) (c:C) (r:List (Nat×C)) :HN pl (some (cells,c)) r=layS pl cells r:=rfl
section
variable {α β:Type} {f:α→List C} {s:Nat} [hf:Cel f s] {g:β→List C}
theorem NQ (l:List α) (c:C) (r:List C) (k:Nat) (h:l.length*s=k) :eK (cl f l++(c::r)) k=some c.noR:=by
 rw[zq (f:=f) l _ k (by omega),h,Nat.sub_self,uw]
theorem HP (l:List α) (l':List β) (r:List C) (k:Nat) (h:l.length*s≤k) :eK (cl f l++(cl g l'++r)) k=eK (cl g l'++r) (k - l.length*s) :=zq (f:=f) l _ k h
theorem NS (l:List α) (c c':C) (r:List C) (k:Nat) (h:l.length*s=k) :fo (cl f l++(c::r)) k [c'] =some (cl f l++(c'::r),.val undef) :=by
 rw[zr (f:=f) l _ _ k (by omega),h,Nat.sub_self]
 unfold fo splice
 rw[if_pos (by simp)]
 rfl
theorem HQ (l:List α) (l':List β) (r cs:List C) (o:Nat) (h:l.length*s≤o) :fo (cl f l++(cl g l'++r)) o cs= (fo (cl g l'++r) (o - l.length*s) cs).map fun q=> (cl f l++q.1,q.2) :=zr (f:=f) l _ cs o h
theorem HR (l:List α) (l':List β) (r:List C) (o n s' m:Nat) (ys:List C) (h:l.length*s≤o) :qF (cl f l++(cl g l'++r)) o n s' ys m= (qF (cl g l'++r) (o - l.length*s) n s' ys m).map fun q=> (cl f l++q.1,q.2) :=NL (f:=f) l _ o n s' m ys h
end
theorem XH {α:Type} (a:α) :List.replicate 1 a= [a] :=rfl
theorem HS (u:TypeDesc) (y n:Nat) (z:List Value) (parts:List (Nat×C)) (q:Option Plan) :mP (some ⟨u,1,y,z⟩) (List.replicate n (cB (BitVec.ofNat 32 0))) parts q=jv (cl wC (List.replicate n 0)) parts:=by
 rw[sE u y n z _ parts q rfl,zx]
theorem XI (u:TypeDesc) (y n:Nat) (parts:List (Nat×C)) (hn:n≤65536) :jB (some ⟨u,1,y,[w8 (UInt8.ofNat 0)]⟩) n parts=fb n (cl bC (List.replicate n 0)) parts:=by
 rw[tT u y n _ parts rfl hn,xY]
theorem HT (u:TypeDesc) (y n:Nat) (z:List Value) (parts:List (Nat×C)) (q:Option Plan) :mP (some ⟨u,1,y,z⟩) (List.replicate n (w8 (UInt8.ofNat 0))) parts q=jv (cl bC (List.replicate n 0)) parts:=by
 rw[sE u y n z _ parts q rfl,xY]
theorem XJ (u:TypeDesc) (y n:Nat) (parts:List (Nat×C)) (hn:n≤65536) :jB (some ⟨u,1,y,[nI 0]⟩) n parts=fb n (cl nC (List.replicate n 0)) parts:=by
 rw[tT u y n _ parts rfl hn,EQ]
theorem XK (u:TypeDesc) (y n:Nat) (parts:List (Nat×C)) (hn:n≤65536) :jB (some ⟨u,1,y,[str []]⟩) n parts=fb n (cl sC (List.replicate n [])) parts:=by
 rw[tT u y n _ parts rfl hn,zC]
end Go.Sx
namespace Go.Sx
open Go.RowKit Go.ChangeShapes Go.WideShapes
def GW (W:World) :Gh:= ⟨fun b o=>W.cell? ⟨b,o,none⟩,fun _=>none,fun _=>none,fun _=>none⟩
theorem XL (W:World) :WorldOK (GW W) [] W:=
 ⟨fun _ _ _ h=>h,fun b cells h=> (by simp[Hp.at] at h),fun b blk h=> (by cases h),fun b b' c c' blk _ _ h=> (by cases h),fun b blk h=> (by cases h),fun g p h=> (by cases h),
   fun b cells off s n xs blk v h=> (by simp[Hp.at] at h),fun b z h=> (by cases h),fun b l h=> (by simp[Hp.mp] at h),fun b b' l l' blk h=> (by simp[Hp.mp] at h)⟩
def E6 (P:Program) (t:TypeId) {α:Type} (f:α→List C) (ok:α→Prop) :Prop:=
 ∀ {H:Type} {enc:TypeId×Value→H} {W:World} {base:Nat} {sp:Nat→Bool} {held:Bool} {fuel:Nat} {cs:List Value} {x:DataW H×List MemPlace},
   DataW.trod enc P W base sp held fuel t cs=some x→∃a,ok a∧RepL (GW W) (f a) cs∧∀u∈cs,u.oneCell'=true
section
variable {P:Program} {t e:TypeId}
theorem NT {c v:Value} {G:Gh} (h:v=c) :RepL G [.val c] [v] :=by
 simp only[RepL,Rep];exact ⟨v,[],rfl,h,rfl⟩
theorem zE (ht:P.underlying t=some (.int .i64)) :E6 P t iC fun n=> -9223372036854775808≤n∧n≤9223372036854775807:=fun h=>by
 obtain ⟨n,rfl,_,hw⟩ :=DataW.trod_int ht h
 refine ⟨n,?_,NT rfl,by simp[Value.oneCell']⟩
 simpa[Lit.wf,IntKind.min,IntKind.max,IntKind.signed,IntKind.bits] using hw
theorem E7 (b o x y:Nat) : ((⟨b,o,none⟩ :Addr).add x).add y= ⟨b,o+x+y,none⟩ :=by
 simp only[Addr.add]
 by_cases hx:x=0<;>by_cases hy:y=0<;>simp[hx,hy]
theorem oz {α:Type} {R:Nat→α→Prop} : ∀n,(∀i< n,∃a,R i a)→∃l:List α,l.length=n∧∀i a,l[i]? =some a→R i a
 |0,_=> ⟨[],rfl,by simp⟩
 |n+1,h=>by
  obtain ⟨l,h1,h2⟩ :=oz n (fun i hi=>h i (by omega))
  obtain ⟨a,ha⟩ :=h n (by omega)
  refine ⟨l++[a],by simp[h1],fun i b hb=> ?_⟩
  rw[List.getElem?_append] at hb
  split at hb
  · exact h2 i b hb
  · rename_i hi
    have:i=n:=by
     have:= (List.getElem?_eq_some_iff.1 hb).1
     simp at this;omega
    subst this
    simp[h1] at hb;subst hb;exact ha
theorem mQ {α:Type} {f:α→List C} {s:Nat} [hf:Cel f s] (l:List α) (i j:Nat) (hj:j< s) : (cl f l)[i*s+j]? = (l[i]?).bind fun a=> (f a)[j]? :=by
 have h1: (cl f l)[i*s+j]? = ((cl f l).drop (i*s))[j]? :=by rw[List.getElem?_drop]
 rw[h1,gy]
 cases hq:l[i]? with
 |none=>
  rw[List.drop_of_length_le (by simpa using hq)];rfl
 |some a=>
  obtain ⟨hi,rfl⟩ :=List.getElem?_eq_some_iff.1 hq
  rw[List.drop_eq_getElem_cons hi,ef,List.getElem?_append_left (by rw[hf.len];exact hj)];rfl
theorem E8 {α:Type} {f:α→List C} {ok:α→Prop} {s:Nat} [hf:Cel f s] (ht:P.underlying t=some (.slice e)) (hc:P.cellsOf e=s) (he:E6 P e f ok) :
 E6 P t (fun l:List α=> [sl f .no l]) fun l=>l.length≤9223372036854775807∧∀a∈l,ok a:=fun {H enc W base sp held fuel cs x} h=>by
 rcases DataW.trod_slice ht h with ⟨rfl,_⟩ | ⟨a,len,cap,elems,rest,n,_,rfl,_,hb,hl,hm,hlen,hel,_,_⟩
 · refine ⟨[],⟨by simp,by simp⟩,?_,by simp[Value.oneCell']⟩
   simp only[RepL]
   refine ⟨_,[],rfl,?_,rfl⟩
   simp only[sl,Rep]
   exact ⟨none,0,rfl,Nat.le_refl _,Nat.zero_le _,by simp,.inl rfl⟩
 · have each: ∀i< len,∃b,ok b∧∃cs,W.cells? base (a.add (i*s)) s=some cs∧RepL (GW W) (f b) cs∧∀u∈cs,u.oneCell'=true:=fun i hi=>by
    have h1:=hel i hi
    rw[List.getElem?_eq_getElem (by omega),hc,Option.bind_eq_some_iff] at h1
    obtain ⟨cs,h2,h3⟩ :=h1
    obtain ⟨b,h4,h5,h6⟩ :=he h3
    exact ⟨b,h4,cs,h2,h5,h6⟩
   obtain ⟨l,hll,hlr⟩ :=oz len each
   refine ⟨l,⟨by rw[hll];exact Nat.le_trans hl hm,fun b hb=>by
    obtain ⟨i,hi⟩ :=List.getElem?_of_mem hb
    exact (hlr i b hi).1⟩,?_,by simp[Value.oneCell']⟩
   simp only[RepL]
   refine ⟨_,[],rfl,?_,rfl⟩
   simp only[sl,Rep]
   refine ⟨some a,cap,by rw[hll],by omega,hm,by simp,?_⟩
   by_cases h0:len=0
   · left;have:l= [] :=by rw[←List.length_eq_zero_iff];omega
     subst this;rfl
   · right
     have hspot:a= ⟨a.block,a.off,none⟩ :=by
      obtain ⟨b,hb⟩ : ∃b,l[0]? =some b:= ⟨_,List.getElem?_eq_getElem (by omega)⟩
      obtain ⟨_,cs,h2,_⟩ :=hlr 0 b hb
      have h3:= (World.cells?_some h2).2.2 0 hf.pos
      simp only[Nat.zero_mul] at h3
      have h4:W.cell? a≠none:=by
       have: (a.add 0).add 0=a:=by simp[Addr.add]
       rw[this] at h3
       rw[h3]
       have:= (World.cells?_some h2).2.1
       intro hq
       have:=hf.pos
       have hq2:cs.length≤0:=by simpa using hq
       omega
      obtain ⟨blk,off,spot⟩ :=a
      cases spot with
      |none=>rfl
      |some q=>simp[World.cell?] at h4;split at h4<;>simp_all
     refine ⟨a.block,a.off,by rw[←hspot],?_⟩
     refine RepK.of_get fun k c hk=> ?_
     have hkl:k< (cl f l).length:= (List.getElem?_eq_some_iff.1 hk).1
     rw[cp (f:=f)] at hkl
     have hs:=hf.pos
     have hdm:k= (k / s)*s+k % s:=by rw[Nat.mul_comm];exact (Nat.div_add_mod k s).symm
     have hml:k % s< s:=Nat.mod_lt _ hs
     rw[hdm,mQ (f:=f) l _ _ hml] at hk
     rw[Option.bind_eq_some_iff] at hk
     obtain ⟨b,hb,hbc⟩ :=hk
     obtain ⟨_,cs,h2,h3,h4⟩ :=hlr _ b hb
     obtain ⟨u,hu1,hu2⟩ :=h3.get _ c hbc
     refine ⟨u,?_,h4 u (List.mem_of_getElem? hu1),hu2⟩
     have h5:= (World.cells?_some h2).2.2 (k % s) hml
     rw[hu1] at h5
     rw[hspot] at h5
     show W.cell? ⟨a.block,a.off+k,none⟩ =some u
     rw[←h5]
     rw[E7,Nat.add_assoc,←hdm]
end
section
variable {H:Type} {enc:TypeId×Value→H} {P:Program} {W:World} {base b0:Nat} {sp:Nat→Bool} {held:Bool} {t:TypeId} {v:Value} {d:DataW H} {ps:List MemPlace}
theorem zF {α:Type} {f:α→List C} {g:α→C} {ok:α→Prop} (hg: ∀a,f a= [g a]) (hr:E6 P t f ok) (hu: ∀u,P.underlying t=some u→(match u with| .struct _| .array _ _=>False|_=>True))
 (hval:Value.okWide P W .any b0 t v) (hd:DataW.Trod enc P W base sp held t v d ps) : ∃a,ok a∧Rep (GW W) (g a) v:=by
 obtain ⟨fuel,hd⟩ :=hd
 obtain ⟨a,h1,h2,_⟩ :=hr hd
 rw[hg] at h2
 simp only[RepL] at h2
 obtain ⟨u,vs,h3,h4,rfl⟩ :=h2
 refine ⟨a,h1,?_⟩
 cases v with
 |agg cs=>
  exfalso
  unfold Value.okWide at hval
  cases hq:P.underlying t with
  |none=>rw[hq] at hval;simp[Cell.okWide,Cell.ok,hq] at hval
  |some u=>
   have:=hu u hq
   rw[hq] at hval
   cases u<;>simp_all [Cell.okWide,Cell.ok]
 |_=>
  simp only[Value.cells,List.cons.injEq,and_true] at h3
  rw[h3];exact h4
end
def qf (P:Program) :Bool:= (List.range P.types.size).all fun t=>match P.underlying t with
 |some (.slice e) =>decide (0< P.cellsOf e)
 |_=>true
theorem nT {H:Type} {enc:TypeId×Value→H} {P:Program} {W W':World} {sp:Nat→Bool} (hl:laidOutB P=true) (hm:mapsRowed P=true) (hs:qf P=true) :
 ∀ (ts:List TypeId) (vs:List Value) (ds:List (DataW H)) (ps:List MemPlace),(∀t∈ts,t< P.types.size)→DataW.TrodAll enc P W 0 (fun _=>true) true ts vs ds ps→
   (∀p∈ps,W.sameAt W' p)→(∀p∈ps,sp p.block=true)→DataW.TrodAll enc P W' 0 sp true ts vs ds ps
 | [],[],[],ps,_,h,_,_=>h
 |t::ts,v::vs,d::ds,ps,hb,h,h1,h2=>by
  obtain ⟨p,q,⟨fuel,h3⟩,h4,rfl⟩ :=h
  refine ⟨p,q,⟨fuel,?_⟩,nT hl hm hs ts vs ds q (fun t ht=>hb t (List.mem_cons_of_mem _ ht)) h4 (fun p hp=>h1 p (List.mem_append_right _ hp)) (fun p hp=>h2 p (List.mem_append_right _ hp)),rfl⟩
  refine DataW.trod_stays (T:= (· < P.types.size)) (kids_rows hl hm) (fun {t e} ht he=> ?_) (fun h=>by cases h) (hb t (List.mem_cons_self ..)) h3 (fun p hp=>h1 p (List.mem_append_left _ hp)) (fun p hp=>h2 p (List.mem_append_left _ hp))
  have:=List.all_eq_true.1 hs t (List.mem_range.2 ht)
  rw[he] at this
  simpa using this
 | [],[],_::_,_,_,h,_,_=>h.elim
 | [],_::_,_,_,_,h,_,_=>h.elim
 |_::_,[],_,_,_,h,_,_=>h.elim
 |_::_,_::_,[],_,_,h,_,_=>h.elim
theorem HU {H:Type} {enc:TypeId×Value→H} {P:Program} {f:Func} {s:ChangeSpec} {fresh handsOn again:Bool} {W W':World} {args:Array Value} {ds gs:List (DataW H)} {before:List MemPlace} {t:TypeId}
 (hl:laidOutB P=true) (hm:mapsRowed P=true) (hsl:qf P=true) (hps: ∀t∈f.params.toList,t< P.types.size)
 (hW:DataW.Whole enc P f.params.toList s.vars false W args.toList ds gs before) (hv:s.vars= [])
 (hs:s.fn H ds= { results:= [.lit (.bool true)],args:=ds }) (hr:f.resultTypes= #[t]) (ht:P.underlying t=some .bool)
 (hos:W'.os=W.os) (hout:W'.output=W.output) (hold: ∀g< W.heap.size,W'.heap[g]? =W.heap[g]?) :
 s.post enc P f false fresh handsOn again W args (.bool true) W':=by
 have hlt:=hW.lt
 have hW0:=hW
 obtain ⟨p,q,h1,h2,rfl,hz,hn⟩ :=hW
 rw[hv] at h2
 obtain ⟨rfl,rfl⟩ :=trodVars_none h2
 simp only[List.append_nil] at hW0 hlt hz hn
 have same: ∀x∈p,W.sameAt W' x:=fun x hx=>by
  have hb:=hold _ (hlt x hx)
  cases x with
  |cell b o=>simp only[World.sameAt,MemPlace.block] at hb ⊢;simp only[World.cell?];rw[hb]
  |map b=>exact hb
 have args': ∀sp:Nat→Bool,(∀x∈p,sp x.block=true)→DataW.TrodAll enc P W' 0 sp true f.params.toList args.toList ds p:=fun sp hsp=>
  nT hl hm hsl _ _ _ _ hps h1 same hsp
 have res: ∀ (b:Nat) (sp:Nat→Bool) (hd:Bool),DataW.TrodAll enc P W' b sp hd f.resultTypes.toList ((Value.bool true).resultList f.resultTypes.size) [.lit (.bool true)] [] :=fun b sp hd=>by
  rw[hr];exact trodAll_mk1 (shut_bool ht true)
 refine ⟨ds,[],p,[],p,[],hW0,?_,?_,?_,?_,fun _=> ⟨?_,.lit (.bool true) ::ds,[],p,⟨p,[],?_,?_,by simp,fun b off hp=> ?_,fun h=>by cases h⟩,fun x hx _=>hx⟩⟩
 · rw[List.append_nil,hs];exact res _ _ _
 · rw[List.append_nil,hs];exact args' _ fun x hx=>by simpa using hlt x hx
 · rw[List.append_nil,hs,hv];rfl
 · refine ⟨hos,hout,fun i hi=> ?_⟩
   rw[hold i hi]
   cases W.heap[i]? with
   |none=>rfl
   |some o=>cases o<;>simp
 · exact ok_one hr rfl (okWide_bool_mk ht true)
 · rw[hr]
   exact ⟨[],p,shut_bool ht true,args' (fun _=>true) fun _ _=>rfl,rfl⟩
 · rw[hv];rfl
 · have:=hz b off hp
   simp only[World.frozen?] at this ⊢
   rw[hold b (hlt _ hp)];exact this
theorem BN {K:Checked} {os:Os} (started:os.Started) {H:Type} {enc:TypeId×Value→H} {a:Assume} {fi:Nat} {fn:Func} {s:ChangeSpec} {fresh handsOn again:Bool} {laid:List (String×DataW Unit)} {gl:Nat→C} {t:TypeId}
 (own:ownKnob K.prog.godebug=none) (noInit:K.prog.inits.idxOf? fi=none) (hfn:K.prog.funcs[fi]? =some fn)
 (hl:laidOutB K.prog=true) (hm:mapsRowed K.prog=true) (hsl:qf K.prog=true) (hps: (fn.params.toList.all fun t=>decide (t< K.prog.types.size)) =true)
 (hv:s.vars= []) (hs: ∀ds:List (DataW H),ds.length=fn.params.size→s.fn H ds= { results:= [.lit (.bool true)],args:=ds }) (hr:fn.resultTypes= #[t]) (ht:K.prog.underlying t=some .bool)
 (witness: ∃ (w:World) (tape:Tape) (i:Input),w.os=os∧(w.forCall tape i).Shaped K.prog∧i.vars= []∧Input.okWide K.prog (w.forCall tape i) .any w.heap.size fi i∧
   ((s.pre enc K.prog fn [] false (w.forCall tape i).memory i.args∧laidMetH K.prog laid (w.forCall tape i).memory)∧sizedMet enc K.prog fn (OpenSpec.ofChange s) false (w.forCall tape i).memory i.args)∧a.holds K.prog (lone (Frame.enter K.prog fi i.args .normal) [] (w.forCall tape i)))
 (hgl: ∀W,laidMetH K.prog laid W→∀g,Rep (GW W) (gl g) (.pointer (some ⟨g,0,none⟩)))
 (hc: ∀ (W:World) (b0:Nat) (args:Array Value) (ds:List (DataW H)) (p:List MemPlace),(∀ (j:Nat) t v,fn.params.toList[j]? =some t→args.toList[j]? =some v→Value.okWide K.prog W .any b0 t v)→
   DataW.TrodAll enc K.prog W 0 (fun _=>true) true fn.params.toList args.toList ds p→∃az,RepL (GW W) az args.toList∧FC K.prog gl fi az [] (.val (.bool true)) []) :
 ReturnsInHanded a K os fi .any (fun w args=> (s.pre enc K.prog fn [] false w args∧laidMetH K.prog laid w)∧sizedMet enc K.prog fn (OpenSpec.ofChange s) false w args) (s.post enc K.prog fn false fresh handsOn again) :=by
 refine returnsInHanded_of_change_and (C:=K) (X:=fun w _=>laidMetH K.prog laid w) (fun _ _ _ hh h=>laidMetH.of_heap hh h) own started noInit hfn witness ?_
 intro W base args ds gs before hval hW _ _ hL _
 have hW':=hW
 obtain ⟨p,q,h1,h2,rfl,hz,hn⟩ :=hW'
 rw[hv] at h2
 obtain ⟨rfl,rfl⟩ :=trodVars_none h2
 obtain ⟨az,has,hfc⟩ :=hc W base args ds p (fun j t v hj hv=>hval j t v (by simpa using hj) (by simpa using hv)) h1
 refine (hfc.2 (GW W) W args (XL W) (fun g p h=>by cases h) (hgl W hL) has).mono ?_
 rintro e W' ⟨v,G',rfl,hrep,_,_,F⟩
 rw[aY] at hrep
 subst hrep
 have hlen: ∀ (ts:List TypeId) (vs:List Value) (ds:List (DataW H)) (ps:List MemPlace),DataW.TrodAll enc K.prog W 0 (fun _=>true) true ts vs ds ps→ds.length=ts.length:=by
  intro ts
  induction ts with
  |nil=>intro vs ds ps h;cases vs<;>cases ds<;>simp_all [DataW.TrodAll]
  |cons t ts ih=>
   intro vs ds ps h
   cases vs<;>cases ds<;>simp only[DataW.TrodAll] at h
   obtain ⟨p,q,_,h4,_⟩ :=h
   simp[ih _ _ _ h4]
 have hold: ∀g< W.heap.size,W'.heap[g]? =W.heap[g]? :=fun g hg=> (F.old g hg rfl (fun b h=>by cases h)).1
 refine ⟨_,rfl,HU hl hm hsl (fun t ht=> ?_) hW hv (hs ds (by rw[hlen _ _ _ _ h1];simp)) hr ht F.os F.output hold⟩
 have:=List.all_eq_true.1 hps t ht
 simpa using this
end Go.Sx
namespace Go.Sx
open Go.RowKit
theorem HV (n:Nat) :Value.int .i64 (n:Int) =nI n:=id rfl
theorem E9 (x:Int) (h:0≤x) :Value.int .i64 x=nI x.toNat:=by
 unfold nI;congr 1;omega
section
variable (P:Program) (t:TypeId)
theorem KH (x y:Int) (h: -9223372036854775808≤x+y∧x+y< 9223372036854775808) :aW P .add t (.val (.int .i64 x)) (.val (.int .i64 y)) =some (vp (.val (.int .i64 (x+y)))) :=by
 simp only[cE,cY,ne_eq,not_true_eq_false,if_false,Option.map_some]
 rw[fg _ (by omega) (by omega)]
theorem TV (x:Int) (y:Nat) (h: -9223372036854775808≤x+y∧x+y< 9223372036854775808) :aW P .add t (.val (.int .i64 x)) (.val (nI y)) =some (vp (.val (.int .i64 (x+y)))) :=KH P t x y h
theorem BO (x y:Int) (h: -9223372036854775808≤x - y∧x - y< 9223372036854775808) :aW P .sub t (.val (.int .i64 x)) (.val (.int .i64 y)) =some (vp (.val (.int .i64 (x - y)))) :=by
 simp only[cE,cY,ne_eq,not_true_eq_false,if_false,Option.map_some]
 rw[fg _ (by omega) (by omega)]
theorem TW (x:Int) (y:Nat) (h: -9223372036854775808≤x - y∧x - y< 9223372036854775808) :aW P .sub t (.val (.int .i64 x)) (.val (nI y)) =some (vp (.val (.int .i64 (x - y)))) :=BO P t x y h
theorem KI (x y:Int) (h: -9223372036854775808≤x*y∧x*y< 9223372036854775808) :aW P .mul t (.val (.int .i64 x)) (.val (.int .i64 y)) =some (vp (.val (.int .i64 (x*y)))) :=by
 simp only[cE,cY,ne_eq,not_true_eq_false,if_false,Option.map_some]
 rw[fg _ (by omega) (by omega)]
theorem TX (x:Nat) (y:Int) (h: -9223372036854775808≤x*y∧x*y< 9223372036854775808) :aW P .mul t (.val (nI x)) (.val (.int .i64 y)) =some (vp (.val (.int .i64 (x*y)))) :=KI P t x y h
theorem KJ (x y:Int) (h:y≠0∧ -9223372036854775808≤x.tdiv y∧x.tdiv y< 9223372036854775808) :aW P .quo t (.val (.int .i64 x)) (.val (.int .i64 y)) =some (vp (.val (.int .i64 (x.tdiv y)))) :=by
 simp only[cE,cY,ne_eq,not_true_eq_false,if_false,Option.map_some,h.1]
 rw[fg _ (by omega) (by omega)]
theorem TY (x:Int) (y:Nat) (h:0< y) (hx: -9223372036854775808≤x∧x< 9223372036854775808) :aW P .quo t (.val (.int .i64 x)) (.val (nI y)) =some (vp (.val (.int .i64 (x.tdiv y)))) :=by
 refine KJ P t x y ⟨by omega,?_⟩
 have key: ∀n:Nat,(n:Int).tdiv (y:Int) = ((n / y:Nat) :Int) :=fun _=>rfl
 rcases Int.le_total 0 x with h0|h0
 · obtain ⟨n,rfl⟩ :=Int.eq_ofNat_of_zero_le h0
   rw[key]
   have:=Nat.div_le_self n y
   generalize n / y=q at this ⊢
   omega
 · obtain ⟨n,hn⟩ :=Int.eq_ofNat_of_zero_le (a:= -x) (by omega)
   have e:x= -(n:Int) :=by omega
   rw[e,Int.neg_tdiv,key]
   have:=Nat.div_le_self n y
   generalize n / y=q at this ⊢
   omega
theorem KK (x y:Int) (h:y≠0) :aW P .rem t (.val (.int .i64 x)) (.val (.int .i64 y)) =some (vp (.val (.int .i64 (x.tmod y)))) :=by
 simp only[cE,cY,ne_eq,not_true_eq_false,if_false,Option.map_some,h]
theorem TZ (x:Int) (y:Nat) (h:0< y) :aW P .rem t (.val (.int .i64 x)) (.val (nI y)) =some (vp (.val (.int .i64 (x.tmod y)))) :=KK P t x y (by omega)
theorem KL (x y:Int) :aW P .eql t (.val (.int .i64 x)) (.val (.int .i64 y)) =some (vp (.val (.bool (decide (x=y))))) :=by
 simp only[cE,cY,ne_eq,not_true_eq_false,if_false,Option.map_some]
 congr 4
theorem KM (x y:Int) :aW P .lss t (.val (.int .i64 x)) (.val (.int .i64 y)) =some (vp (.val (.bool (decide (x< y))))) :=by
 simp only[cE,cY,ne_eq,not_true_eq_false,if_false,Option.map_some]
theorem BP (x y:Int) :aW P .leq t (.val (.int .i64 x)) (.val (.int .i64 y)) =some (vp (.val (.bool (decide (x≤y))))) :=by
 simp only[cE,cY,ne_eq,not_true_eq_false,if_false,Option.map_some]
theorem KN (x y:Int) :aW P .gtr t (.val (.int .i64 x)) (.val (.int .i64 y)) =some (vp (.val (.bool (decide (y< x))))) :=by
 simp only[cE,cY,ne_eq,not_true_eq_false,if_false,Option.map_some]
theorem KO (x y:Int) :aW P .geq t (.val (.int .i64 x)) (.val (.int .i64 y)) =some (vp (.val (.bool (decide (y≤x))))) :=by
 simp only[cE,cY,ne_eq,not_true_eq_false,if_false,Option.map_some]
theorem T0 (x:Int) (y:Nat) :aW P .eql t (.val (.int .i64 x)) (.val (nI y)) =some (vp (.val (.bool (decide (x=y))))) :=KL P t x y
theorem T2 (x:Int) (y:Nat) :aW P .lss t (.val (.int .i64 x)) (.val (nI y)) =some (vp (.val (.bool (decide (x< y))))) :=KM P t x y
theorem T3 (x:Int) (y:Nat) :aW P .leq t (.val (.int .i64 x)) (.val (nI y)) =some (vp (.val (.bool (decide (x≤y))))) :=BP P t x y
theorem T4 (x:Int) (y:Nat) :aW P .gtr t (.val (.int .i64 x)) (.val (nI y)) =some (vp (.val (.bool (decide ((y:Int) < x))))) :=KN P t x y
theorem T5 (x:Int) (y:Nat) :aW P .geq t (.val (.int .i64 x)) (.val (nI y)) =some (vp (.val (.bool (decide ((y:Int)≤x))))) :=KO P t x y
theorem T6 (x:Nat) (y:Int) :aW P .leq t (.val (nI x)) (.val (.int .i64 y)) =some (vp (.val (.bool (decide ((x:Int)≤y))))) :=BP P t x y
theorem XM (x y:Nat) :aW P .gtr t (.val (nU x)) (.val (nU y)) =some (vp (.val (.bool (decide (y< x))))) :=by
 simp only[nU,cE,cY,ne_eq,not_true_eq_false,if_false,Option.map_some]
 congr 4;rw[Bool.eq_iff_iff];simp
theorem T8 (x:Nat) (s:Int) (h:x< 18446744073709551616) (h2:0≤s) :aW P .shr t (.val (nU x)) (.val (.int .i64 s)) =some (vp (.val (nU (x>>>s.toNat)))) :=by
 rw[E9 s h2];exact Ez P t x s.toNat h
theorem NU (x:Nat) (h:x< 18446744073709551616) :gT .xor (.val (nU x)) =some (vp (.val (nU (18446744073709551615 - x)))) :=by
 show some (vp (.val (.int .u64 (IntKind.wrap .u64 ((BitVec.ofInt 64 18446744073709551615 ^^^ BitVec.ofInt 64 (x:Int)).toNat:Int))))) =_
 have e:BitVec.ofInt 64 18446744073709551615=BitVec.allOnes 64:=by decide
 rw[e,BitVec.ofInt_natCast,BitVec.allOnes_xor,BitVec.toNat_not,BitVec.toNat_ofNat,Nat.mod_eq_of_lt h,i3,nU]
 simp only[Option.some.injEq,vp,Plan.val.injEq,C.val.injEq,Value.int.injEq,true_and,and_true]
 have e2:2 ^ 64 - 1 - x=18446744073709551615 - x:=by simp
 rw[e2];omega
theorem NV (x:Int) (h: -9223372036854775808< x∧x≤9223372036854775808) :gT .neg (.val (.int .i64 x)) =some (vp (.val (.int .i64 (-x)))) :=by
 show some (vp (.val (.int .i64 (IntKind.wrap .i64 (0 - x))))) =_
 rw[fg _ (by omega) (by omega),Int.zero_sub]
end
theorem NW (n:Nat) (x:Int) (h:0≤x∧x< n) :ff (.val (.int .i64 x)) n=some x.toNat:=by
 simp only[ff,C.int?];rw[if_pos h]
theorem T9 (x y:Nat) :eW false (.val (nI x)) (.val (nI y)) =some (vp (.val (nI (min x y)))) :=by
 simp only[eW,nI,if_true,Bool.false_eq_true,if_false]
 by_cases h:y< x
 · rw[if_pos (by omega),Nat.min_eq_right (by omega)];rfl
 · rw[if_neg (by omega),Nat.min_eq_left (by omega)];rfl
theorem Ua (x y:Nat) :eW true (.val (nI x)) (.val (nI y)) =some (vp (.val (nI (max x y)))) :=by
 simp only[eW,nI,if_true]
 by_cases h:x< y
 · rw[if_pos (by omega),Nat.max_eq_right (by omega)];rfl
 · rw[if_neg (by omega),Nat.max_eq_left (by omega)];rfl
theorem zG (x y:Int) :eW true (.val (.int .i64 x)) (.val (.int .i64 y)) =some (vp (.val (.int .i64 (max x y)))) :=by
 simp only[eW,if_true]
 by_cases h:x< y
 · rw[if_pos h,Int.max_eq_right (by omega)];rfl
 · rw[if_neg h,Int.max_eq_left (by omega)];rfl
theorem HW (x:Int) (y:Nat) :eW true (.val (.int .i64 x)) (.val (nI y)) =some (vp (.val (.int .i64 (max x y)))) :=zG x y
theorem iu (P:Program) (t:TypeId) (x y:Nat) (h:x< 9223372036854775808∧y≤9223372036854775808) :aW P .sub t (.val (nI x)) (.val (nI y)) =some (vp (.val (.int .i64 ((x:Int) - y)))) :=BO P t x y (by omega)
theorem b9 {x y:Int} (h:x=y) :CLe (.val (.int .i64 x)) (.val (.int .i64 y)) :=h▸CLe.refl _
theorem cu {x:Int} {y:Nat} (h:x=y) :CLe (.val (.int .i64 x)) (.val (nI y)) :=h▸CLe.refl _
theorem cw {x:Nat} {y:Int} (h: (x:Int) =y) :CLe (.val (nI x)) (.val (.int .i64 y)) :=h▸CLe.refl _
theorem cH {x y:Nat} (h:x=y) :CLe (.val (nI x)) (.val (nI y)) :=h▸CLe.refl _
theorem dL {α:Type} {f:α→List C} {r:Rt} {l l':List α} (h:l=l') :CLe (sl f r l) (sl f r l') :=h▸CLe.refl _
theorem jO {α:Type} {f:α→List C} {r:Rt} {l l':List α} (h:l=l') :CLe (sl f .full l) (sl f r l') :=h▸CLe.full _ _ _
theorem bR {α:Type} {f:α→List C} {r:Rt} {l:List α} (h:l= []) :CLe (.val (.slice none 0 0)) (sl f r l) :=by subst h;exact CLe.nil _
end Go.Sx
namespace Go.Sx
open Go.RowKit
mutual
theorem sF (k:Nat) : ∀c:C,aG 0 c=true→aG k c=true
 | .top,_=>rfl
 | .val _,_=>rfl
 | .sl _ _ xs,h=>by simp only[aG] at h ⊢;exact noRefs_zero k xs h
 | .sv b _ _,h=>by simp[aG] at h
 | .bp b _,h=>by simp[aG] at h
 | .kp xs,h=>by simp only[aG] at h ⊢;exact noRefs_zero k xs h
 | .agg xs,h=>by simp only[aG] at h ⊢;exact noRefs_zero k xs h
 | .tup xs,h=>by simp only[aG] at h ⊢;exact noRefs_zero k xs h
 | .fn _ xs,h=>by simp only[aG] at h ⊢;exact noRefs_zero k xs h
theorem noRefs_zero (k:Nat) : ∀l:List C,noRefs 0 l=true→noRefs k l=true
 | [],_=>rfl
 |c::l,h=>by
  simp only[noRefs,Bool.and_eq_true] at h ⊢
  exact ⟨sF k c h.1,noRefs_zero k l h.2⟩
end
def mR (k:Nat) :List (Nat×C)→Bool
 | [] =>true
 |x::e=>aG k x.2 && mR k e
theorem BQ (k:Nat) :mR k [] =true:=rfl
theorem qI (k t:Nat) (c:C) (e:List (Nat×C)) :mR k ((t,c) ::e) = (aG k c && mR k e) :=rfl
theorem uD (k:Nat) : ∀e:List (Nat×C),mR k e=true→∀t,aG k (A e t) =true
 | [],_,t=>rfl
 | (u,c) ::e,h,t=>by
   rw[qI,Bool.and_eq_true] at h
   rw[bD]
   split
   · exact h.1
   · exact uD k e h.2 t
def jw (k:Nat) :Hp→Bool
 | [] =>true
 |none::h=>jw k h
 |some cs::h=>noRefs k cs && jw k h
theorem BR (k:Nat) :jw k [] =true:=rfl
theorem yM (k:Nat) (h:Hp) :jw k (none::h) =jw k h:=rfl
theorem mj (k:Nat) (cs:List C) (h:Hp) :jw k (some cs::h) = (noRefs k cs && jw k h) :=rfl
theorem uE (k:Nat) : ∀ (h:Hp) (b:Nat) (cells:List C),jw k h=true→h[b]? =some (some cells)→noRefs k cells=true
 | [],b,cells,_,hb=>by simp at hb
 |none::h,0,cells,_,hb=>by simp at hb
 |some cs::h,0,cells,hk,hb=>by
  rw[mj,Bool.and_eq_true] at hk
  simp only[List.getElem?_cons_zero,Option.some.injEq] at hb
  subst hb;exact hk.1
 |x::h,b+1,cells,hk,hb=>by
  rw[List.getElem?_cons_succ] at hb
  refine uE k h b cells ?_ hb
  cases x with
  |none=>exact hk
  |some cs=>rw[mj,Bool.and_eq_true] at hk;exact hk.2
theorem NX {cx:Cx} {n:Nat} {Q:Ex→St→Prop} {e:List (Nat×C)} {h:Hp} {c:Code} (hcx:CxOK cx) (k:Nat) (hk:n≤k) (he:mR k e=true) (hb:jw k (h.take k) =true)
 (H:Tr cx n c ⟨A e,h.take k⟩ Q) :Tr cx n c ⟨A e,h⟩ Q:=
 Tr.cut k hk (uD k e he) (fun g=>sF k _ (hcx.glo g)) (fun b cells hbk hc=>uE k _ b cells hb (by rw[List.getElem?_take,if_pos hbk];exact hc)) H
theorem bI (k f:Nat) (xs:List C) :aG k (.fn f xs) =noRefs k xs:=rfl
end Go.Sx
namespace Go.Sx
open Go.RowKit
theorem uF (d:TD) (h:d.isAgg=false) (cells:List C) (o:Nat) :dI d cells o=eK cells o:=by
 unfold dI eK;rw[h];rfl
section
variable (P:Program)
theorem Fa {α:Type} [Inhabited α] [DecidableEq α] {f:α→List C} {g:α→C} [hf:Sca f g] (F:C→C→Option Bool) (de:TD) (hd:de.isAgg=false) (hs:de.size=1) (hF: ∀a b,F (g a) (g b) =some (decide (a=b)))
 (x y:List α) (n:Nat) (hx:x.length=n) (hy:y.length=n) : ∀m i,i+m=n→ox F de (cl f x) (cl f y) (List.range' i m) =some (decide (x.drop i=y.drop i))
 |0,i,h=>by
  rw[List.drop_of_length_le (by omega),List.drop_of_length_le (by omega)];simp[ox]
 |m+1,i,h=>by
  have hxi:i< x.length:=by omega
  have hyi:i< y.length:=by omega
  rw[List.range'_succ]
  unfold ox
  rw[uF _ hd,uF _ hd,hs,Nat.mul_one,sz (f:=f) x i hxi,sz (f:=f) y i hyi]
  simp only[]
  rw[hF]
  have e1:x.drop i=x.getD i default::x.drop (i+1) :=by rw[List.drop_eq_getElem_cons hxi];simp[List.getD,List.getElem?_eq_getElem hxi]
  have e2:y.drop i=y.getD i default::y.drop (i+1) :=by rw[List.drop_eq_getElem_cons hyi];simp[List.getD,List.getElem?_eq_getElem hyi]
  rw[e1,e2]
  by_cases hab:x.getD i default=y.getD i default
  · rw[decide_eq_true hab]
    simp only[]
    rw[Fa F de hd hs hF x y n hx hy m (i+1) (by omega),hab]
    simp
  · rw[decide_eq_false hab]
    simp only[]
    rw[decide_eq_false]
    intro hc
    exact hab (List.cons.inj hc).1
def oA (op:BinOp) (b:Bool) :Option Plan:=match op with
 | .eql=>some (vp (.val (.bool b)))
 | .neq=>some (vp (.val (.bool (!b))))
 |_=>none
theorem NY (b:Bool) :oA .eql b=some (vp (.val (.bool b))) :=rfl
theorem yN {t:TypeId} {x y:List C} {b:Bool} (op:BinOp) (hg:P.eqGuardType P.depth t=false) (h:jd P 9 t (.agg x) (.agg y) =some b) :aW P op t (.agg x) (.agg y) =oA op b:=by
 show gu P op t (.agg x) (.agg y) =_
 unfold gu
 rw[if_pos ⟨.inl ⟨rfl,rfl⟩,hg⟩]
 unfold oA
 cases op<;>simp[h,vp,Plan.pure]
theorem NZ {t:TypeId} {k:IntKind} {s y:Nat} {z:List Value} (d:Nat) (h:td P t=some ⟨.int k,s,y,z⟩) (a b:Int) :jd P (d+1) t (.val (.int k a)) (.val (.int k b)) =some (decide (a=b)) :=by
 unfold jd;rw[h];simp only[if_true];congr 1
theorem Ub {t:TypeId} {s y:Nat} {z:List Value} (d:Nat) (h:td P t=some ⟨.int .u8,s,y,z⟩) (a b:UInt8) :jd P (d+1) t (.val (w8 a)) (.val (w8 b)) =some (decide (a=b)) :=by
 have:=NZ P d h a.toNat b.toNat
 rw[w8,w8,this];congr 1;rw[decide_eq_decide]
 exact ⟨fun h=>UInt8.toNat_inj.1 (by omega),fun h=>by rw[h]⟩
theorem HX {t e:TypeId} {n s y y2:Nat} {z z2:List Value} (d:Nat) (h:td P t=some ⟨.array n e,s,y,z⟩) (he:td P e=some ⟨.int .u8,1,y2,z2⟩) (a b:List UInt8) (ha:a.length=n) (hb:b.length=n) :
 jd P (d+2) t (.agg (cl bC a)) (.agg (cl bC b)) =some (decide (a=b)) :=by
 unfold jd;rw[h];simp only[];rw[he]
 simp only[C.agg?]
 have:=Fa (f:=bC) (jd P (d+1) e) ⟨.int .u8,1,y2,z2⟩ rfl rfl (fun a b=>Ub P d he a b) a b n ha hb n 0 (by omega)
 simpa using this
theorem N0 {t e:TypeId} {n s y y2:Nat} {z z2:List Value} (h:td P t=some ⟨.array n e,s,y,z⟩) (he:td P e=some ⟨.int .u8,1,y2,z2⟩) (hg:P.eqGuardType P.depth t=false) (op:BinOp) (a b:List UInt8) (ha:a.length=n) (hb:b.length=n) :
 aW P op t (.agg (cl bC a)) (.agg (cl bC b)) =oA op (decide (a=b)) :=yN P op hg (HX P 7 h he a b ha hb)
end
@[congr] theorem Yv {cx:Cx} {apps:List Nat} {dsts:List (Option Nat)} {l:List Oper} {id:Nat} {d:Option Nat} {e:List (Nat×C)} {h:Hp} {fs:List FP} {K:List FP→St→Prop} {ty:TypeId} {pos:String} {aft:Array Edge} {op:Op} {p p':Option Bool} (hp:p=p') :
   Eh cx apps dsts l id d e h fs K ty pos aft op p=Eh cx apps dsts l id d e h fs K ty pos aft op p':=by rw[hp]
def x7 (c:C) (w:Bool) :Option Bool:=match c with
 | .val (.bool b) =>some (b==w)
 | .val (.tuple _) =>some false
 |_=>none
def Uc (d:Option (Option Nat)) (w:Bool) (e:List (Nat×C)) :Option Bool:=match d.bind id with
 |none=>some false
 |some t=>x7 (A e t).noR w
theorem HY (dsts:List (Option Nat)) (j:Nat) (w:Bool) (e:List (Nat×C)) :g4 dsts (some (j,w)) (A e) =Uc (dsts[j]?) w e:=rfl
theorem Fb (t:Nat) (w:Bool) (e:List (Nat×C)) :Uc (some (some t)) w e=x7 (A e t).noR w:=rfl
theorem Ud (b:Bool) :x7 (.val (.bool b)) true=some b:=by cases b<;>rfl
theorem Ue (b:Bool) :x7 (.val (.bool b)) false=some (!b) :=by cases b<;>rfl
theorem Uf (w:Bool) :x7 (.val undef) w=some false:=rfl
end Go.Sx
namespace Go.Sx
open Go.RowKit
section
variable {cx:Cx} {G:Gh} {w:World} {st:St} {a:Act}
structure Lit (cx:Cx) (ops ops':Array Oper) (k:Nat) :Prop where
 dst:ops'.toList.map (·.dst) =ops.toList.map (·.dst)
 app:ops'.toList.filterMap d8=ops.toList.filterMap d8
 eF: ∀i,eF ops' i=eF ops i
 same: ∀i,i≠k+1→ops'[i]? =ops[i]?
 two: ∃p q t n ps ty1 pos1 aft1 ty2 pos2 aft2 e s y z y2 z2,ops[k]? =some ⟨some p,.buildSlice t n ps,ty1,pos1,aft1,none⟩∧ops[k+1]? =some ⟨some q,.convert t t (.tmp p),ty2,pos2,aft2,none⟩∧
  ops'[k+1]? =some ⟨some q,.move (.tmp p),ty2,pos2,aft2,none⟩∧td cx.P t=some ⟨.slice e,s,y,z⟩∧td cx.P e=some ⟨.int .u8,1,y2,z2⟩∧cx.gr p=false
end
end Go.Sx
namespace Go.Sx
open Go.RowKit
class Inj {α:Type} (f:α→List C) :Prop where
 inj: ∀a b,f a=f b→a=b
instance:Inj bC:= ⟨fun a b h=>by simpa[bC,cn] using h⟩
instance:Inj wC:= ⟨fun a b h=>by simpa[wC,b8] using h⟩
instance:Inj sC:= ⟨fun a b h=>by simpa[sC,b7] using h⟩
instance:Inj nC:= ⟨fun a b h=>by simpa[nC,ca] using h⟩
instance:Inj iC:= ⟨fun a b h=>by simpa[iC] using h⟩
instance:Inj oC:= ⟨fun a b h=>by simpa[oC] using h⟩
theorem cj {α:Type} {f:α→List C} {s:Nat} [hf:Cel f s] [hi:Inj f] : ∀ {l l':List α},cl f l=cl f l'↔l=l':=by
 intro l l'
 constructor
 · induction l generalizing l' with
   |nil=>
    intro h
    cases l' with
    |nil=>rfl
    |cons a l'=>
     have:=congrArg List.length h
     rw[lM,ef,List.length_append,hf.len] at this
     have:=hf.pos
     simp at*
     omega
   |cons a l ih=>
    intro h
    cases l' with
    |nil=>
     have:=congrArg List.length h
     rw[lM,ef,List.length_append,hf.len] at this
     have:=hf.pos
     simp at*
     omega
    |cons b l'=>
     rw[ef,ef] at h
     obtain ⟨h1,h2⟩ :=List.append_inj h (by rw[hf.len,hf.len])
     rw[hi.inj _ _ h1,ih h2]
 · rintro rfl;rfl
theorem cb {α:Type} {f:α→List C} {s:Nat} [hf:Cel f s] [hi:Inj f] {r:Rt} {l l':List α} :sl f r l=sl f r l'↔l=l':=by
 constructor
 · intro h
   simp only[sl,C.sl.injEq,true_and] at h
   exact cj.1 h.2
 · rintro rfl;rfl
theorem zH {α:Type} {f:α→List C} {s:Nat} [hf:Cel f s] [hi:Inj f] {l l':List α} {r r':List C} (hl:l.length=l'.length) :cl f l++r=cl f l'++r'↔l=l'∧r=r':=by
 constructor
 · intro h
   obtain ⟨h1,h2⟩ :=List.append_inj h (by rw[cp (f:=f),cp (f:=f),hl])
   exact ⟨cj.1 h1,h2⟩
 · rintro ⟨rfl,rfl⟩;rfl
end Go.Sx
namespace Go.Sx
open Go.RowKit
attribute [go_sem ↓] bD Mq Gv
attribute [go_sem] HI BG BH Hn ER ES BI BJ ET Ho Hq Nx Hr Hs Ny Ht Hu Hv EU Nz TM uB NA aM bq br bA aT aU ay aD aN Hm gI uA Bool.and_self Bool.and_true Sy Gq DX Ml Mm DY Gr Bo not_true_eq_false not_false_eq_true Mn Sz SA SB Mo Mp SD G9 Bx EH Mt Mx My Mz GF Ep MA run_build Bt GG run_store GH MB SL GI MC MD Eq SM ME SN GJ MF MG GK MH MI GL Mu Mv Ei Ej Ek Bp El Bq Em tO tP En Ee Gw Gx SF SG SI Ms Gy Gz Ef Eg GA GC GD Mr Gm Gn GR MQ MR MS SO Kx Mj Gp Bool.or_false Bool.false_or Bool.true_or Bool.or_true beq_self_eq_true ur ut List.map_nil List.map_cons Option.map_none Option.map_some Option.bind_some Option.bind_none zw GT GU Xa Xb Xc aaX Xd SS ST SU SV Xe Xf Xg Xh Xi Xj Xk Xl Xm Xn Xo Xp Xq Xr Xs Xt Xu Nv Ez Nw TK SQ Xw Xx Xy KC HV ne_eq HY Fb Ud Ue Uf NY eq_self decide_true decide_false Bool.not_true Bool.not_false KH TV BO TW KI TX KJ TY KK TZ KL KM BP KN KO T0 T2 T3 T4 T5 T6 XM T8 NU NV NW T9 Ua zG HW MU GV MV MW GX GY SW SX Nu Xz SY XC S7 XD Tb MX MY GZ MZ Td Na Nb Bu Nc Nd Nf Te Ng Bv EB EC G0 xT Nh G4 ED G5 G6 G7 EE EF Bw EG fI TF EM NO HH BK yL BL BM TQ NN TR TT zy EW EX EY zA x3 uC x6 E2 NP HJ HK HO E3 E4 E5 XH zx xY EQ Tf xU nz Tg G8 Th NE Hy Ti ND nA To Nj Hb Tk Ni Tl Tm Nat.mul_one Nat.zero_add Nat.add_zero Hc Hd Ts He Nk Hf Tt Tu NB Hx XG NC Tx Ty Tz Nl xX Nm Hg Np Nn No GE qZ wl kg List.append_nil EI Ha Bz DZ Gs Gt D0 Gu By xV Tc HF HG HR NM List.map_append HC x4 NI EZ HS HT HD TO TP HE XI XJ XK NJ NK E0 zC Nat.sub_zero Nat.zero_mul List.drop_zero List.drop_succ_cons List.take_succ_cons List.take_zero GM GP uw Ew nv sz ML NQ HP MM XE XF NS HQ zt GQ MO List.set_cons_zero List.set_cons_succ List.getElem?_cons_zero List.getElem?_cons_succ List.length_nil List.length_cons List.nil_append List.cons_append Nat.add_sub_cancel_left List.length_set List.length_replicate EO
end Go.Sx
namespace Go.Sx
open Go.RowKit Go.ChangeShapes
theorem Fc {H:Type} {enc:TypeId×Value→H} {P:Program} {W:World} {base:Nat} {sp:Nat→Bool} {held:Bool} {fuel:Nat} {t e:TypeId} {n:Nat} {k:IntKind} {cs:List Value} {p:List MemPlace} {ns:List Int}
 (ht:P.underlying t=some (.array n e)) (he:P.underlying e=some (.int k)) (hc:P.cellsOf e=1) (hn:P.cellsOf t=n)
 (h:DataW.trod enc P W base sp held fuel t cs=some (.agg (ns.map fun m=> .lit (.int k m)),p)) :cs=ns.map (.int k ·) :=by
 obtain ⟨xs,m,_,hx,hlen,hxl,hel⟩ :=DataW.trod_array ht h
 simp only[Prod.mk.injEq,DataW.agg.injEq] at hx
 have hnl:ns.length=n:=by
  have:=congrArg List.length hx.1
  simp only[List.length_map] at this;omega
 have each: ∀i< n,∃z,cs[i]? =some (.int k z)∧ns[i]? =some z:=fun i hi=>by
  have h1:=hel i hi
  rw[List.getElem?_eq_getElem (by omega),hc,Nat.mul_one] at h1
  obtain ⟨z,h2,h3,_⟩ :=DataW.trod_int he h1
  refine ⟨z,?_,?_⟩
  · have h4:=congrArg (fun l=>l[0]?) h2
    simpa[List.getElem?_take,List.getElem?_drop] using h4
  · have h5:=congrArg (fun l=>l[i]?) hx.1
    simp only[List.getElem?_map] at h5
    rw[List.getElem?_eq_getElem (l:=xs) (by omega),h3] at h5
    simp only[Option.map_some] at h5
    cases hq:ns[i]? with
    |none=>rw[hq] at h5;cases h5
    |some z'=>rw[hq] at h5;simp only[Option.map_some,Option.some.injEq,DataW.lit.injEq,Lit.int.injEq,true_and] at h5;rw[h5]
 apply List.ext_getElem?
 intro i
 by_cases hi:i< n
 · obtain ⟨z,h1,h2⟩ :=each i hi
   rw[h1,List.getElem?_map,h2];rfl
 · rw[List.getElem?_eq_none (by omega),List.getElem?_eq_none (by simp;omega)]
theorem sG {P:Program} {W:World} {n:String} {g t e m fuel:Nat} {enc:TypeId×Value→Unit} {sp:Nat→Bool} {held:Bool} {cs:Array Value} {p:List MemPlace} {ws:List (BitVec 32)}
 (hg:P.globalNamed n=some g) (hv:W.var? P n=some cs) (ht:P.underlying t=some (.array m e)) (he:P.underlying e=some (.int .u32)) (hc:P.cellsOf e=1) (hn:P.cellsOf t=m)
 (h:DataW.trod enc P W 0 sp held fuel t cs.toList=some (.agg ((ws.map fun w=> (w.toNat:Int)).map fun m=> .lit (.int .u32 m)),p)) :Rep (GW W) (.kp (cl wC ws)) (.pointer (some ⟨g,0,none⟩)) :=by
 have hcs:=Fc ht he hc hn h
 simp only[Rep]
 refine ⟨g,0,rfl,RepK.of_get fun i x hx=> ?_⟩
 have hi:i< ws.length:=by
  have:= (List.getElem?_eq_some_iff.1 hx).1
  rw[cp (f:=wC)] at this;omega
 rw[Es (f:=wC) ws i hi] at hx
 simp only[Option.some.injEq] at hx
 subst hx
 refine ⟨cB (ws.getD i default),?_,rfl,aY.2 rfl⟩
 show W.cell? ⟨g,0+i,none⟩ =_
 rw[World.var?_cell hg hv,Nat.zero_add,←Array.getElem?_toList,hcs]
 simp[List.getElem?_map,List.getD,List.getElem?_eq_getElem hi,cB]
theorem gJ {H:Type} {enc:TypeId×Value→H} {P:Program} {W:World} {b:Nat} {sp:Nat→Bool} {hd:Bool} {t:TypeId} {ts:List TypeId} {vs:List Value} {ds:List (DataW H)} {ps:List MemPlace}
 (h:DataW.TrodAll enc P W b sp hd (t::ts) vs ds ps) : ∃v vs' d ds' p q,vs=v::vs'∧ds=d::ds'∧DataW.Trod enc P W b sp hd t v d p∧DataW.TrodAll enc P W b sp hd ts vs' ds' q:=by
 cases vs<;>cases ds<;>simp only[DataW.TrodAll] at h
 obtain ⟨p,q,h1,h2,_⟩ :=h
 exact ⟨_,_,_,_,p,q,rfl,rfl,h1,h2⟩
theorem Fd {H:Type} {enc:TypeId×Value→H} {P:Program} {W:World} {b:Nat} {sp:Nat→Bool} {hd:Bool} {vs:List Value} {ds:List (DataW H)} {ps:List MemPlace}
 (h:DataW.TrodAll enc P W b sp hd [] vs ds ps) :vs= [] :=by
 cases vs<;>cases ds<;>simp only[DataW.TrodAll] at h<;>rfl
def AR (P:Program) (t:TypeId) {α:Type} (g:α→C) (ok:α→Prop) :Prop:=
 ∀ {H:Type} {enc:TypeId×Value→H} {W:World} {base b0:Nat} {sp:Nat→Bool} {held:Bool} {v:Value} {d:DataW H} {ps:List MemPlace},
   Value.okWide P W .any b0 t v→DataW.Trod enc P W base sp held t v d ps→∃a,ok a∧Rep (GW W) (g a) v
section
variable {P:Program} {t e:TypeId}
theorem Ug {s y:Nat} {z:List Value} (h:td P t=some ⟨.int .i64,s,y,z⟩) :AR P t (fun n:Int=> .val (.int .i64 n)) fun n=> -9223372036854775808≤n∧n≤9223372036854775807:=
 fun h1 h2=>zF (f:=iC) (fun _=>rfl) (zE (ch h).1) (fun u hu=>by rw[(ch h).1] at hu;cases hu;trivial) h1 h2
theorem HZ {α:Type} {f:α→List C} {ok:α→Prop} {s0 s y:Nat} [hf:Cel f s0] {z:List Value} (h:td P t=some ⟨.slice e,s,y,z⟩) (hc:P.cellsOf e=s0) (he:E6 P e f ok) :AR P t (fun l:List α=>sl f .no l) fun l=>l.length≤9223372036854775807∧∀a∈l,ok a:=
 fun h1 h2=>zF (f:=fun l=> [sl f .no l]) (fun _=>rfl) (E8 (ch h).1 hc he) (fun u hu=>by rw[(ch h).1] at hu;cases hu;trivial) h1 h2
end
end Go.Sx
namespace Go.Sx
attribute [go_sem] zy EW EX EY zA x3 uC NF NG Hz HA NH HB cp zw Nr Hi Hj Ns Hk Hl EP Nt BE bE aP aE aQ aF aR aS sy kK bI true_and and_true
end Go.Sx
namespace Go.Sx
open Go.RowKit
abbrev cf:= {l:List UInt8 // l.length=16}
instance:Inhabited cf:= ⟨⟨List.replicate 16 0,by simp⟩⟩
def dC (d:cf) :List C:=cl bC d.1
instance:Cel dC 16:= ⟨fun a=>by unfold dC;rw[cp (f:=bC),a.2],fun a=>by unfold dC;exact fI a.1,by decide,fun a r=>by
 unfold dC
 obtain ⟨l,hl⟩ :=a
 cases l with
 |nil=>simp at hl
 |cons b l=>rfl⟩
instance:Fla dC:= ⟨fun a=>by unfold dC;exact gI bC a.1⟩
instance:Inj dC:= ⟨fun a b h=>Subtype.ext (cj.1 h)⟩
theorem XN (d:cf) :dC d=cl bC d.1:=rfl
theorem uG {α:Type} [Inhabited α] {f:α→List C} {s:Nat} [hf:Cel f s] (l:List α) (k:Nat) (h:k< l.length) :kj ((cl f l).drop (k*s)) 0 s=some (.agg (f (gt l k))) :=by
 rw[←EO,←MN (f:=f) l k h]
 unfold kj
 simp only[List.length_drop,List.drop_drop,Nat.add_zero,Nat.zero_add]
 have h1:=cp (f:=f) l
 have h2:k*s+s≤l.length*s:=by rw[←Nat.succ_mul];exact Nat.mul_le_mul_right _ h
 rw[if_pos (by omega),if_pos (by omega)]
theorem N1 (u:TypeDesc) (y:Nat) (z:List Value) (l:List UInt8) (h:l.length=16) (hz:z.length=16) (h1:z.all (·.oneCell') =true) :jB (some ⟨u,16,y,z⟩) 1 [(0,.agg (cl bC l))] =some (vp (sl dC .full [⟨l,h⟩])) :=by
 unfold jB
 simp only[hz,h1]
 rw[if_pos ⟨by decide,by decide,trivial,trivial⟩]
 have hl:=cp (f:=bC) l
 have hr: (dG z 1).length=16:=by simp[dG,hz]
 have hc:C.cells? (.agg (cl bC l)) =some (cl bC l) :=by
  show some ((cl bC l).map C.noR) =_
  rw[fI]
 unfold gb
 simp only[hc]
 rw[if_pos ⟨by omega,by omega⟩]
 unfold gb
 simp only[Option.map_some,splice,Nat.zero_mul,List.take_zero,List.nil_append,Nat.zero_add]
 rw[List.drop_of_length_le (by omega),List.append_nil]
 congr 2
 simp[sl,ef,lM,dC]
def H3 (a b:Option C) :Option C:=match a,b with
 |some a,some b=>some (.tup [a.noR,b.noR])
 |_,_=>none
def H4 (a b c:Option C) :Option C:=match a,b,c with
 |some a,some b,some c=>some (.tup [a.noR,b.noR,c.noR])
 |_,_,_=>none
theorem Uh (cx:Cx) (st:St) (r1 r2:ResultVar) :jM cx st [r1,r2] =H3 (eX cx st r1) (eX cx st r2) :=by
 unfold jM H3
 simp only[List.mapM_cons,List.mapM_nil,Option.bind_eq_bind,Option.pure_def]
 cases eX cx st r1<;>cases eX cx st r2<;>rfl
theorem Ui (cx:Cx) (st:St) (r1 r2 r3:ResultVar) :jM cx st [r1,r2,r3] =H4 (eX cx st r1) (eX cx st r2) (eX cx st r3) :=by
 unfold jM H4
 simp only[List.mapM_cons,List.mapM_nil,Option.bind_eq_bind,Option.pure_def]
 cases eX cx st r1<;>cases eX cx st r2<;>cases eX cx st r3<;>rfl
theorem Fe (a b:C) :H3 (some a) (some b) =some (.tup [a.noR,b.noR]) :=rfl
theorem Ff (a b c:C) :H4 (some a) (some b) (some c) =some (.tup [a.noR,b.noR,c.noR]) :=rfl
attribute [go_sem] Uh Ui Fe Ff
attribute [go_sem] XN uG N1
end Go.Sx
namespace Go.Sx
open Go.RowKit
theorem zI (n:Nat) (l:List Int) (i:Nat) (x:Int) (r:List (Nat×C)) (h:i< l.length) :fb n (cl iC l) ((i,.val (.int .i64 x)) ::r) =fb n (cl iC (l.set i x)) r:=by
 have e:=lN (f:=iC) l i x h
 rw[Nat.mul_one] at e
 have e2:splice (cl iC l) i [.val (.int .i64 x)] =cl iC (l.set i x) :=e
 show (if [C.val (.int .i64 x)].length=1∧i+1≤(cl iC l).length then fb n (splice (cl iC l) i [.val (.int .i64 x)]) r else none) =_
 rw[if_pos ⟨rfl,by rw[cp (f:=iC)];omega⟩,e2]
theorem H5 (l:List Nat) :cl nC l=cl iC (l.map Int.ofNat) :=by
 unfold cl
 rw[List.flatMap_map]
 rfl
theorem H6 (n:Nat) (l:List Nat) (i:Nat) (x:Int) (r:List (Nat×C)) (h:i< l.length) :fb n (cl nC l) ((i,.val (.int .i64 x)) ::r) =fb n (cl iC ((l.map Int.ofNat).set i x)) r:=by
 rw[H5,zI n _ i x r (by simpa using h)]
attribute [go_sem] zI H6 List.map_cons List.map_nil List.set_cons_zero
end Go.Sx
namespace Go.Sx
open Go.RowKit
theorem H7 (cx:Cx) (g:Nat) (az:List C) (b:Nat) (r:C×Hp) :sD cx g az (some b) (some r) =some (.call g az) :=rfl
theorem BT (cx:Cx) (g:Nat) (az:List C) (o:Option (C×Hp)) :sD cx g az none o=some (.call g az) :=rfl
theorem H8 {α:Type} (f:α→List C) (r:Rt) (l:List α) : (sl f r l).cells?=some [(sl f r l).noR] :=rfl
attribute [go_sem] H8 H7 BT
end Go.Sx
namespace Go.Sx
open Go.RowKit
def lC {α:Type} (f:α→List C) (l:List α) :List C:= [sl f .no l]
instance {α:Type} (f:α→List C) :Sca (lC f) (sl f .no) := ⟨fun _=>rfl,fun _=>rfl,fun _=>rfl,fun _ _=>rfl⟩
attribute [go_sem] List.nil_append List.cons_append
end Go.Sx
namespace Go.Sx
open Go.RowKit
open Classical in
noncomputable def rf {α:Type} (enc:α→List C×Hp) (out:α→C×Hp) (xs:List C) (h:Hp) :Option (C×Hp) :=
 if q: ∃a,enc a= (xs,h) then some (out q.choose) else none
theorem x9 {α:Type} {enc:α→List C×Hp} {out:α→C×Hp} (hi: ∀a b,enc a=enc b→out a=out b) (a:α) :rf enc out (enc a).1 (enc a).2=some (out a) :=by
 have h: ∃b,enc b= ((enc a).1,(enc a).2) := ⟨a,rfl⟩
 unfold rf
 rw[dif_pos h]
 exact congrArg some (hi _ _ h.choose_spec)
theorem Fg {α:Type} {enc:α→List C×Hp} {out:α→C×Hp} {xs:List C} {h:Hp} {r:C×Hp} (e:rf enc out xs h=some r) : ∃a,enc a= (xs,h)∧out a=r:=by
 unfold rf at e
 split at e
 · rename_i h2;exact ⟨_,h2.choose_spec,Option.some.inj e⟩
 · cases e
def extH (hp:Nat→List C→Hp→Option (C×Hp)) (f:Nat) (t:List C→Hp→Option (C×Hp)) :Nat→List C→Hp→Option (C×Hp) :=fun g xs h=>if g=f then t xs h else hp g xs h
theorem rh {hp:Nat→List C→Hp→Option (C×Hp)} {f:Nat} {t:List C→Hp→Option (C×Hp)} (xs:List C) (h:Hp) :extH hp f t f xs h=t xs h:=if_pos rfl
theorem uH {hp:Nat→List C→Hp→Option (C×Hp)} {f g:Nat} {t:List C→Hp→Option (C×Hp)} (n:g≠f) (xs:List C) (h:Hp) :extH hp f t g xs h=hp g xs h:=if_neg n
theorem CxOK.extH {P:Program} {km:TypeId→Value→Bool} {gl:Nat→C} {pu:Nat→List C→Option C} {hp:Nat→List C→Hp→Option (C×Hp)} {N M:Nat} (hcx:CxOK ⟨P,N,gl,pu,hp,fun _=>false,km⟩)
 {α:Type} {enc:α→List C×Hp} {out:α→C×Hp} {f:Nat} (h: ∀a,FC P gl f (enc a).1 (enc a).2 (out a).1 (out a).2) :CxOK ⟨P,M,gl,pu,Sx.extH hp f (rf enc out),fun _=>false,km⟩ :=by
 refine ⟨hcx.glo,hcx.pu,fun g xs k c k' hc=> ?_,hcx.km⟩
 by_cases hgf:g=f
 · subst hgf
   have hc':rf enc out xs k=some (c,k') :=by rw[←hc];exact (rh xs k).symm
   obtain ⟨a,e1,e2⟩ :=Fg hc'
   have:=h a
   rw[e1,e2] at this
   exact this
 · have hc':hp g xs k=some (c,k') :=by rw[←hc];exact (uH hgf xs k).symm
   exact hcx.hp g xs k c k' hc'
end Go.Sx
namespace Go.Sx
open Go.RowKit Go.ChangeShapes Go.WideShapes
structure BulkOK {H:Type} (B:DataW H→Nat) (BA:List (DataW H)→Nat) :Prop where
 one: ∀d,1≤B d
 str: ∀s,B (.lit (.string s)) =s.length+1
 slice: ∀e s,B (.slice e s) =BA e+BA s+1
 agg: ∀e,B (.agg e) =BA e+1
 nil:BA [] =0
 cons: ∀d r,BA (d::r) =B d+BA r
end Go.Sx
namespace Go.Sx
open Go.RowKit Go.ChangeShapes Go.WideShapes
end Go.Sx
namespace Go.Sx
open Go.RowKit
theorem uI {G:Gh} : ∀ {vals vs:List Value},RepL G (vals.map .val) vs→vs=vals
 | [],vs,h=>by simpa[RepL] using h
 |v::vals,vs,h=>by
  rw[List.map_cons] at h
  simp only[RepL] at h
  obtain ⟨u,us,rfl,h2,h3⟩ :=h
  rw[aY] at h2
  rw[h2,uI h3]
theorem BU {P:Program} {gl:Nat→C} {f:Nat} {vals:List Value} {v:Value} (he:kT P f) (h: ∀w,Calls P f vals.toArray w fun e w'=>e= .returned v∧Below w.heap.size w w') :FC P gl f (vals.map .val) [] (.val v) [] :=by
 refine ⟨he,fun G w vs W hT hg hr=> ?_⟩
 obtain rfl:vs=vals.toArray:=by rw[←uI hr]
 refine (h w).mono ?_
 rintro e w' ⟨rfl,hb⟩
 have hlt: ∀blk off u,G.K blk off=some u→blk< w.heap.size:=fun blk off u hk=>by
  have:=W.known blk off u hk
  unfold World.cell? at this
  cases hq:w.heap[blk]? with
  |none=>rw[hq] at this;simp at this
  |some o=>exact (Array.getElem?_eq_some_iff.1 hq).1
 have hn: ∀b cells,Hp.at [] b≠some cells:=fun b cells=>by simp[Hp.at]
 refine ⟨v,G,rfl,aY.2 rfl,(fun s n xs e=>by cases e),⟨fun blk off u hk=> ?_,fun b cells hc=> (hn b cells hc).elim,(fun b blk x=> ⟨(W.dom b blk x).1,Nat.lt_of_lt_of_le (W.dom b blk x).2 hb.size⟩),W.inj,W.sep,(fun g p hp=>Nat.lt_of_lt_of_le (W.tlt g p hp) hb.size),(fun b cells off s n xs blk v hc=> (hn b cells hc).elim),fun b z hz=> ?_,(fun b l hb=>by simp[Hp.mp] at hb),(fun b b' l l' blk hb=>by simp[Hp.mp] at hb)⟩,
  ⟨hb.os,hb.tape,hb.output,hb.size,.refl G,fun g hg' ht hm=> ⟨hb.block g hg',ht,hm,fun _=>rfl⟩⟩⟩
 · rw[←W.known blk off u hk]
   unfold World.cell?
   rw[hb.block blk (hlt blk off u hk)]
 · obtain ⟨blk,cs,e,fr,q1,q2,q3⟩ :=W.siz b z hz
   obtain ⟨⟨c,hc⟩,_⟩ :=W.dom b blk q1
   simp at hc
end Go.Sx
