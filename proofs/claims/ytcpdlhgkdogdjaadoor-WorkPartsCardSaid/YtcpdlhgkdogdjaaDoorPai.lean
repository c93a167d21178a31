/-
   And what follows.
-/
import Derived.Lib.SlBytesConst
import Derived.SizedLaws
import Derived.JoinedCond
import Derived.Deep.CondSized
import Derived.Below
import Derived.Test.YtcpdlhgkdogdjaaDoorPah
set_option linter.unusedSimpArgs false
set_option linter.unusedVariables false
namespace Go.Sx
open Go.RowKit
section
variable (P:Program) (t:TypeId)
theorem Dx (x y:Int)(h: -9223372036854775808≤x+y∧x+y< 9223372036854775808):aO P .add t (.val (.int .i64 x)) (.val (.int .i64 y)) =some (vp (.val (.int .i64 (x+y)))):=by
 simp only[cd,cr,ne_eq,not_true_eq_false,if_false,Option.map_some]
 rw[gd _ (by omega) (by omega)]
theorem Jk (x:Int)(y:Nat)(h: -9223372036854775808≤x+y∧x+y< 9223372036854775808):aO P .add t (.val (.int .i64 x)) (.val (nI y)) =some (vp (.val (.int .i64 (x+y)))):=Dx P t x y h
theorem Dy (x y:Int)(h:y≠0∧ -9223372036854775808≤x.tdiv y∧x.tdiv y< 9223372036854775808):aO P .quo t (.val (.int .i64 x)) (.val (.int .i64 y)) =some (vp (.val (.int .i64 (x.tdiv y)))):=by
 simp only[cd,cr,ne_eq,not_true_eq_false,if_false,Option.map_some,h.1]
 rw[gd _ (by omega) (by omega)]
theorem Jl (x:Int)(y:Nat)(h:0< y)(hx: -9223372036854775808≤x∧x< 9223372036854775808):aO P .quo t (.val (.int .i64 x)) (.val (nI y)) =some (vp (.val (.int .i64 (x.tdiv y)))):=by
 refine Dy P t x y ⟨by omega,?_⟩
 have key:∀n:Nat,(n:Int).tdiv (y:Int) = ((n / y:Nat):Int):=fun _=>rfl
 rcases Int.le_total 0 x with h0|h0
 . obtain ⟨n,rfl⟩:=Int.eq_ofNat_of_zero_le h0
   rw[key]
   have:=Nat.div_le_self n y
   generalize n / y=q at this ⊢
   omega
 . obtain ⟨n,hn⟩:=Int.eq_ofNat_of_zero_le (a:= -x) (by omega)
   have e:x= -(n:Int):=by omega
   rw[e,Int.neg_tdiv,key]
   have:=Nat.div_le_self n y
   generalize n / y=q at this ⊢
   omega
theorem Dz (x y:Int)(h:y≠0):aO P .rem t (.val (.int .i64 x)) (.val (.int .i64 y)) =some (vp (.val (.int .i64 (x.tmod y)))):=by
 simp only[cd,cr,ne_eq,not_true_eq_false,if_false,Option.map_some,h]
theorem Jm (x:Int)(y:Nat)(h:0< y):aO P .rem t (.val (.int .i64 x)) (.val (nI y)) =some (vp (.val (.int .i64 (x.tmod y)))):=Dz P t x y (by omega)
theorem DA (x y:Int):aO P .eql t (.val (.int .i64 x)) (.val (.int .i64 y)) =some (vp (.val (.bool (decide (x=y))))):=by
 simp only[cd,cr,ne_eq,not_true_eq_false,if_false,Option.map_some]
 congr 4
theorem DB (x y:Int):aO P .neq t (.val (.int .i64 x)) (.val (.int .i64 y)) =some (vp (.val (.bool (decide (x≠y))))):=by
 simp only[cd,cr,ne_eq,not_true_eq_false,if_false,Option.map_some]
 congr 4;rw[Bool.eq_iff_iff];simp
theorem DC (x y:Int):aO P .lss t (.val (.int .i64 x)) (.val (.int .i64 y)) =some (vp (.val (.bool (decide (x< y))))):=by
 simp only[cd,cr,ne_eq,not_true_eq_false,if_false,Option.map_some]
theorem DD (x y:Int):aO P .leq t (.val (.int .i64 x)) (.val (.int .i64 y)) =some (vp (.val (.bool (decide (x≤y))))):=by
 simp only[cd,cr,ne_eq,not_true_eq_false,if_false,Option.map_some]
theorem DE (x y:Int):aO P .geq t (.val (.int .i64 x)) (.val (.int .i64 y)) =some (vp (.val (.bool (decide (y≤x))))):=by
 simp only[cd,cr,ne_eq,not_true_eq_false,if_false,Option.map_some]
theorem Jn (x:Int)(y:Nat):aO P .eql t (.val (.int .i64 x)) (.val (nI y)) =some (vp (.val (.bool (decide (x=y))))):=DA P t x y
theorem Jo (x:Int)(y:Nat):aO P .neq t (.val (.int .i64 x)) (.val (nI y)) =some (vp (.val (.bool (decide (x≠y))))):=DB P t x y
theorem Jp (x:Int)(y:Nat):aO P .lss t (.val (.int .i64 x)) (.val (nI y)) =some (vp (.val (.bool (decide (x< y))))):=DC P t x y
theorem Jq (x:Int)(y:Nat):aO P .leq t (.val (.int .i64 x)) (.val (nI y)) =some (vp (.val (.bool (decide (x≤y))))):=DD P t x y
theorem Jr (x:Int)(y:Nat):aO P .geq t (.val (.int .i64 x)) (.val (nI y)) =some (vp (.val (.bool (decide ((y:Int)≤x))))):=DE P t x y
theorem F6 (x:Int)(h: -9223372036854775808< x∧x≤9223372036854775808):gB .neg (.val (.int .i64 x)) =some (vp (.val (.int .i64 (-x)))):=by
 show some (vp (.val (.int .i64 (IntKind.wrap .i64 (0 - x))))) =_
 rw[gd _ (by omega) (by omega),Int.zero_sub]
end
theorem Js (x y:Nat):fZ true (.val (nI x)) (.val (nI y)) =some (vp (.val (nI (max x y)))):=by
 simp only[fZ,nI,if_true]
 by_cases h:x< y
 . rw[if_pos (by omega),Nat.max_eq_right (by omega)];rfl
 . rw[if_neg (by omega),Nat.max_eq_left (by omega)];rfl
theorem dA {x y:Int}(h:x=y):CLe (.val (.int .i64 x)) (.val (.int .i64 y)):=h▸CLe.refl _
theorem dB {x:Int}{y:Nat}(h:x=y):CLe (.val (.int .i64 x)) (.val (nI y)):=h▸CLe.refl _
theorem dD {x:Nat}{y:Int}(h: (x:Int) =y):CLe (.val (nI x)) (.val (.int .i64 y)):=h▸CLe.refl _
theorem dE {x y:Nat}(h:x=y):CLe (.val (nI x)) (.val (nI y)):=h▸CLe.refl _
theorem yB {α:Type}{f:α→List C}{r:Rt}{l l':List α}(h:l=l'):CLe (sl f r l) (sl f r l'):=h▸CLe.refl _
theorem bS {α:Type}{f:α→List C}{r:Rt}{l:List α}(h:l= []):CLe (.val (.slice none 0 0)) (sl f r l):=by subst h;exact CLe.nil _
end Go.Sx
namespace Go.Sx
open Go.RowKit
def jN (k:Nat):Hp→Bool
 | [] =>true
 |none::h=>jN k h
 |some cs::h=>noRefs k cs && jN k h
theorem g0 (k:Nat)(cs:List C)(h:Hp):jN k (some cs::h) = (noRefs k cs && jN k h):=rfl
theorem lj (k:Nat):∀ (h:Hp)(b:Nat)(cells:List C),jN k h=true→h[b]? =some (some cells)→noRefs k cells=true
 | [],b,cells,_,hb=>by simp at hb
 |none::h,0,cells,_,hb=>by simp at hb
 |some cs::h,0,cells,hk,hb=>by
  rw[g0,Bool.and_eq_true] at hk
  simp only[List.getElem?_cons_zero,Option.some.injEq] at hb
  subst hb;exact hk.1
 |x::h,b+1,cells,hk,hb=>by
  rw[List.getElem?_cons_succ] at hb
  refine lj k h b cells ?_ hb
  cases x with
  |none=>exact hk
  |some cs=>rw[g0,Bool.and_eq_true] at hk;exact hk.2
theorem bF (k f:Nat)(xs:List C):ag k (.fn f xs) =noRefs k xs:=rfl
end Go.Sx
namespace Go.Sx
open Go.RowKit
section
variable (P:Program)
def sn (op:BinOp)(b:Bool):Option Plan:=match op with
 | .eql=>some (vp (.val (.bool b)))
 | .neq=>some (vp (.val (.bool (!b))))
 |_=>none
theorem F7 (b:Bool):sn .eql b=some (vp (.val (.bool b))):=rfl
theorem F8 (b:Bool):sn .neq b=some (vp (.val (.bool (!b)))):=rfl
theorem tW {t:TypeId}{x y:List C}{b:Bool}(op:BinOp)(hg:P.eqGuardType P.depth t=false)(h:fW P 9 t (.agg x) (.agg y) =some b):aO P op t (.agg x) (.agg y) =sn op b:=by
 show fX P op t (.agg x) (.agg y) =_
 unfold fX
 rw[if_pos ⟨.inl ⟨rfl,rfl⟩,hg⟩]
 unfold sn
 cases op<;>simp[h,vp,Plan.pure]
theorem uu {t:TypeId}{k:IntKind}{s y:Nat}{z:List Value}(d:Nat)(h:td P t=some ⟨.int k,s,y,z⟩)(a b:Int):fW P (d+1) t (.val (.int k a)) (.val (.int k b)) =some (decide (a=b)):=by
 unfold fW;rw[h];simp only[if_true];congr 1
end
@[congr] theorem O9 {cx:Cx} {apps:List Nat} {dsts:List (Option Nat)} {l:List Oper} {id:Nat} {d:Option Nat} {e:List (Nat×C)} {h:Hp} {fs:List FP} {K:List FP→St→Prop} {ty:TypeId} {pos:String} {aft:Array Edge} {op:Op} {p p':Option Bool} (hp:p=p'):
   xJ cx apps dsts l id d e h fs K ty pos aft op p=xJ cx apps dsts l id d e h fs K ty pos aft op p':=by rw[hp]
def so (c:C)(w:Bool):Option Bool:=match c with
 | .val (.bool b) =>some (b==w)
 | .val (.tuple _) =>some false
 |_=>none
def Jt (d:Option (Option Nat))(w:Bool)(e:List (Nat×C)):Option Bool:=match d.bind id with
 |none=>some false
 |some t=>so (A e t).noR w
theorem BS (dsts:List (Option Nat))(j:Nat)(w:Bool)(e:List (Nat×C)):fl dsts (some (j,w)) (A e) =Jt (dsts[j]?) w e:=rfl
theorem yC (t:Nat)(w:Bool)(e:List (Nat×C)):Jt (some (some t)) w e=so (A e t).noR w:=rfl
theorem Ju (b:Bool):so (.val (.bool b)) true=some b:=by cases b<;>rfl
theorem Jv (b:Bool):so (.val (.bool b)) false=some (!b):=by cases b<;>rfl
theorem Jw (w:Bool):so (.val undef) w=some false:=rfl
end Go.Sx
namespace Go.Sx
open Go.RowKit
section
variable {cx:Cx} {G:Gh} {w:World} {st:St} {a:Act}
structure Lit (cx:Cx) (ops ops':Array Oper) (k:Nat):Prop where
 dst:ops'.toList.map (·.dst) =ops.toList.map (·.dst)
 app:ops'.toList.filterMap cu=ops.toList.filterMap cu
 dw:∀i,dw ops' i=dw ops i
 same:∀i,i≠k+1→ops'[i]? =ops[i]?
 two:∃p q t n ps ty1 pos1 aft1 ty2 pos2 aft2 e s y z y2 z2,ops[k]? =some ⟨some p,.buildSlice t n ps,ty1,pos1,aft1,none⟩∧ops[k+1]? =some ⟨some q,.convert t t (.tmp p),ty2,pos2,aft2,none⟩∧
  ops'[k+1]? =some ⟨some q,.move (.tmp p),ty2,pos2,aft2,none⟩∧td cx.P t=some ⟨.slice e,s,y,z⟩∧td cx.P e=some ⟨.int .u8,1,y2,z2⟩∧cx.gr p=false
end
end Go.Sx
namespace Go.Sx
open Go.RowKit
class Inj {α:Type} (f:α→List C):Prop where
 inj:∀a b,f a=f b→a=b
instance:Inj bC:=⟨fun a b h=>by simpa[bC,ct] using h⟩
instance:Inj wC:=⟨fun a b h=>by simpa[wC,bX] using h⟩
instance:Inj sC:=⟨fun a b h=>by simpa[sC,bO] using h⟩
instance:Inj nC:=⟨fun a b h=>by simpa[nC,cn] using h⟩
instance:Inj iC:=⟨fun a b h=>by simpa[iC] using h⟩
instance:Inj oC:=⟨fun a b h=>by simpa[oC] using h⟩
theorem co {α:Type}{f:α→List C}{s:Nat}[hf:Cel f s][hi:Inj f]:∀ {l l':List α},cl f l=cl f l'↔l=l':=by
 intro l l'
 constructor
 . induction l generalizing l' with
   |nil=>
    intro h
    cases l' with
    |nil=>rfl
    |cons a l'=>
     have:=congrArg List.length h
     rw[xU,cS,List.length_append,hf.len] at this
     have:=hf.pos
     simp at*
     omega
   |cons a l ih=>
    intro h
    cases l' with
    |nil=>
     have:=congrArg List.length h
     rw[xU,cS,List.length_append,hf.len] at this
     have:=hf.pos
     simp at*
     omega
    |cons b l'=>
     rw[cS,cS] at h
     obtain ⟨h1,h2⟩:=List.append_inj h (by rw[hf.len,hf.len])
     rw[hi.inj _ _ h1,ih h2]
 . rintro rfl;rfl
theorem cg {α:Type}{f:α→List C}{s:Nat}[hf:Cel f s][hi:Inj f]{r:Rt}{l l':List α}:sl f r l=sl f r l'↔l=l':=by
 constructor
 . intro h
   simp only[sl,C.sl.injEq,true_and] at h
   exact co.1 h.2
 . rintro rfl;rfl
end Go.Sx
namespace Go.Sx
open Go.RowKit
attribute [go_sem ↓] cV uf r9
attribute [go_sem] a9 BK vI vJ Bs yh vK vL Bt FK Bu Bv Bw yi FL Je By aV bj bl bE aI aF aE aJ aX Br nt qC Bool.and_self Bool.and_true Ip AJ xy EW EX xz AK vo not_true_eq_false not_false_eq_true EY AL Iq Ir Is It EZ E0 Iu E3 Bb vA ya E6 Fa Fb Fc AW xR Fd run_build vw AX run_store Fe Iz AY Ff xS IA Fg IB A0 Fh Fi Fj A1 E7 E8 xK xL xM xN vr xO pn pq vt xP xF AO AP Iv Iw Ix E5 AQ AS xG xH AT AU AV E4 AG AH Fm Fn IC Dr EV AI Bool.or_false Bool.false_or Bool.true_or Bool.or_true beq_self_eq_true qv qw List.map_nil List.map_cons Option.map_none Option.map_some Option.bind_some Option.bind_none Ns Nt Nu Nv Nw Nx Ny Nz NA NB NC ND NE NF NG NH NI Jc NJ NK ne_eq BS yC Ju Jv Jw F7 F8 eq_self decide_true decide_false Bool.not_true Bool.not_false Dx Jk Dy Jl Dz Jm DA DB DC DD DE Jn Jo Jp Jq Jr F6 Js Fo NL IL Fp Fq Fr IP Ft Fu vx Fv Fw Fx IQ vy x4 x5 se Fy A6 A7 A8 x6 x7 vz x8 x9 eF Ja yd FV BJ vN tV vO Jh FU Ji yk um sj qD sm yq FW BL BM BP yr yu yx sh IR A9 ko IS Ba IT IU FO BC I0 FB Be IW Fz IX IY Nat.mul_one Nat.zero_add Nat.add_zero Bf Bg Bh Bi I3 FM BB I5 I6 FD Bj FE FF nn rc hU List.append_nil Bc Bd vD xA AM xB vB sf IM BH BI List.map_append kr i3 yl BQ BG NN NO FT yn uo Nat.sub_zero Nat.zero_mul List.drop_zero List.drop_succ_cons List.take_succ_cons List.take_zero sc np xW xX A5 IG NM Fl List.set_cons_zero List.set_cons_succ List.getElem?_cons_zero List.getElem?_cons_succ List.length_nil List.length_cons List.nil_append List.cons_append Nat.add_sub_cancel_left List.length_set List.length_replicate Jb
end Go.Sx
namespace Go.Sx
open Go.RowKit Go.ChangeShapes
theorem iE {H:Type}{enc:TypeId×Value→H}{P:Program}{W:World}{b:Nat}{sp:Nat→Bool}{hd:Bool}{t:TypeId}{ts:List TypeId}{vs:List Value}{ds:List (DataW H)}{ps:List MemPlace}
 (h:DataW.TrodAll enc P W b sp hd (t::ts) vs ds ps):∃v vs' d ds' p q,vs=v::vs'∧ds=d::ds'∧DataW.Trod enc P W b sp hd t v d p∧DataW.TrodAll enc P W b sp hd ts vs' ds' q:=by
 cases vs<;>cases ds<;>simp only[DataW.TrodAll] at h
 obtain ⟨p,q,h1,h2,_⟩:=h
 exact ⟨_,_,_,_,p,q,rfl,rfl,h1,h2⟩
theorem yD {H:Type}{enc:TypeId×Value→H}{P:Program}{W:World}{b:Nat}{sp:Nat→Bool}{hd:Bool}{vs:List Value}{ds:List (DataW H)}{ps:List MemPlace}
 (h:DataW.TrodAll enc P W b sp hd [] vs ds ps):vs= []:=by
 cases vs<;>cases ds<;>simp only[DataW.TrodAll] at h<;>rfl
def AR (P:Program)(t:TypeId){α:Type}(g:α→C)(ok:α→Prop):Prop:=
 ∀ {H:Type}{enc:TypeId×Value→H}{W:World}{base b0:Nat}{sp:Nat→Bool}{held:Bool}{v:Value}{d:DataW H}{ps:List MemPlace},
   Value.okWide P W .any b0 t v→DataW.Trod enc P W base sp held t v d ps→∃a,ok a∧Rep (GW W) (g a) v
section
variable {P:Program} {t e:TypeId}
theorem Jx {s y:Nat}{z:List Value}(h:td P t=some ⟨.int .i64,s,y,z⟩):AR P t (fun n:Int=> .val (.int .i64 n)) fun n=> -9223372036854775808≤n∧n≤9223372036854775807:=
 fun h1 h2=>ut (f:=iC) (fun _=>rfl) (uq (aH h).1) (fun u hu=>by rw[(aH h).1] at hu;cases hu;trivial) h1 h2
theorem BT {α:Type}{f:α→List C}{ok:α→Prop}{s0 s y:Nat}[hf:Cel f s0]{z:List Value}(h:td P t=some ⟨.slice e,s,y,z⟩)(hc:P.cellsOf e=s0)(he:yy P e f ok):AR P t (fun l:List α=>sl f .no l) fun l=>l.length≤9223372036854775807∧∀a∈l,ok a:=
 fun h1 h2=>ut (f:=fun l=>[sl f .no l]) (fun _=>rfl) (yA (aH h).1 hc he) (fun u hu=>by rw[(aH h).1] at hu;cases hu;trivial) h1 h2
end
end Go.Sx
namespace Go.Sx
attribute [go_sem] yk um sj qD FQ FR BD BE FSq BF aw FG Bn FH Bo Bp yg FI Bq FJ vF dz cU cC db cE dc dg eX r8 gD bF true_and and_true
end Go.Sx
namespace Go.Sx
open Go.RowKit
abbrev Pa:= {l:List UInt8 // l.length=16}
instance:Inhabited Pa:=⟨⟨List.replicate 16 0,by simp⟩⟩
def dC (d:Pa):List C:=cl bC d.1
instance:Cel dC 16:=⟨fun a=>by unfold dC;rw[aw (f:=bC),a.2],fun a=>by unfold dC;exact eF a.1,by decide,fun a r=>by
 unfold dC
 obtain ⟨l,hl⟩:=a
 cases l with
 |nil=>simp at hl
 |cons b l=>rfl⟩
instance:Fla dC:=⟨fun a=>by unfold dC;exact nt bC a.1⟩
instance:Inj dC:=⟨fun a b h=>Subtype.ext (co.1 h)⟩
def BU (a b:Option C):Option C:=match a,b with
 |some a,some b=>some (.tup [a.noR,b.noR])
 |_,_=>none
theorem Jy (cx:Cx)(st:St)(r1 r2:ResultVar):ip cx st [r1,r2] =BU (eW cx st r1) (eW cx st r2):=by
 unfold ip BU
 simp only[List.mapM_cons,List.mapM_nil,Option.bind_eq_bind,Option.pure_def]
 cases eW cx st r1<;>cases eW cx st r2<;>rfl
theorem yE (a b:C):BU (some a) (some b) =some (.tup [a.noR,b.noR]):=rfl
attribute [go_sem] Jy yE
attribute [go_sem] yb I8
end Go.Sx
namespace Go.Sx
open Go.RowKit
theorem Rx {α:Type}(l:List α)(p:Nat):List.take (l.length - p) (List.drop p l) =List.drop p l:=by
 rw[←List.length_drop,List.take_length]
attribute [go_sem] Rx List.map_cons List.map_nil List.set_cons_zero
end Go.Sx
namespace Go.Sx
open Go.RowKit
def DF (cx:Cx)(rs:List ResultVar)(c:C)(h':Hp):Ex→St→Prop
 | .exit _,_=>False
 |_,st=>ip cx st rs=some c∧st.h=h'
theorem F9 (cx:Cx)(rs:List ResultVar)(c:C)(h':Hp)(st:St):DF cx rs c h' .ret st= (ip cx st rs=some c∧st.h=h'):=rfl
theorem yF {cx:Cx} {f:Nat} {fn:Func} {code:Code} {args:List C} {h h':Hp} {c:C} {rs:List ResultVar} (hN:cx.N=fn.ntmps) (hf:cx.P.funcs[f]? =some fn) (hn: (fn.name== "runtime.NumGoroutine") =false) (hb:fn.body=some code)
 (hrs:fn.results=rs.toArray) (hlen:args.length≤fn.ntmps) (hT:Tr cx h.length code ⟨A (dm 0 args),h⟩ (DF cx rs c h')):FC cx.P cx.gl f args h c h':=by
 refine FC.of hN hf hn hb hlen ?_
 refine Tr.weaken (fun t=>CLe.init args t) (hT.mono fun x st q=>?_)
 have key:ip cx st rs=some c∧st.h=h'→results cx fn st=some c∧((st.h.take h.length=h'∧ag h.length c=true∧∀ (b:Nat) cells,b< h.length→st.h[b]? =some (some cells)→noRefs h.length cells=true)∨st.h=h'):=fun q=>by
  refine ⟨?_,.inr q.2⟩
  rw[←q.1]
  unfold results
  rw[hrs]
  rcases rs with _| ⟨r,_| ⟨r2,rs⟩⟩ <;>rfl
 cases x with
 |exit k=>exact q
 |normal=>exact key q
 |ret=>exact key q
theorem BV {α:Type}(f:α→List C)(r:Rt)(l:List α): (sl f r l).cells?=some [(sl f r l).noR]:=rfl
theorem vS:fY [] =none:=rfl
attribute [go_sem] vS BV F9
end Go.Sx
namespace Go.Sx
open Go.RowKit
def lC {α:Type}(f:α→List C)(l:List α):List C:=[sl f .no l]
instance {α:Type} (f:α→List C):Sca (lC f) (sl f .no):=⟨fun _=>rfl,fun _=>rfl,fun _=>rfl,fun _ _=>rfl⟩
instance {α:Type} (f:α→List C) [h:Nrf f]:Nrf (lC f):=⟨fun k l=>by simp only[lC,noRefs,aI,Bool.and_self]⟩
attribute [go_sem] List.nil_append List.cons_append
end Go.Sx
namespace Go.Sx
open Go.RowKit
open Classical in
noncomputable def nu {α:Type}(enc:α→List C×Hp)(out:α→C×Hp)(xs:List C)(h:Hp):Option (C×Hp):=
 if q:∃a,enc a= (xs,h) then some (out q.choose) else none
theorem BW {α:Type}{enc:α→List C×Hp}{out:α→C×Hp}(hi:∀a b,enc a=enc b→out a=out b)(a:α):nu enc out (enc a).1 (enc a).2=some (out a):=by
 have h:∃b,enc b= ((enc a).1,(enc a).2):=⟨a,rfl⟩
 unfold nu
 rw[dif_pos h]
 exact congrArg some (hi _ _ h.choose_spec)
theorem yG {α:Type}{enc:α→List C×Hp}{out:α→C×Hp}{xs:List C}{h:Hp}{r:C×Hp}(e:nu enc out xs h=some r):∃a,enc a= (xs,h)∧out a=r:=by
 unfold nu at e
 split at e
 . rename_i h2;exact ⟨_,h2.choose_spec,Option.some.inj e⟩
 . cases e
def extH (hp:Nat→List C→Hp→Option (C×Hp))(f:Nat)(t:List C→Hp→Option (C×Hp)):Nat→List C→Hp→Option (C×Hp):=fun g xs h=>if g=f then t xs h else hp g xs h
theorem sr {hp:Nat→List C→Hp→Option (C×Hp)}{f:Nat}{t:List C→Hp→Option (C×Hp)}(xs:List C)(h:Hp):extH hp f t f xs h=t xs h:=if_pos rfl
theorem yH {hp:Nat→List C→Hp→Option (C×Hp)}{f g:Nat}{t:List C→Hp→Option (C×Hp)}(n:g≠f)(xs:List C)(h:Hp):extH hp f t g xs h=hp g xs h:=if_neg n
theorem CxOK.extH {P:Program}{km:TypeId→Value→Bool}{gl:Nat→C}{pu:Nat→List C→Option C}{hp:Nat→List C→Hp→Option (C×Hp)}{N M:Nat}(hcx:CxOK ⟨P,N,gl,pu,hp,fun _=>false,km,true⟩)
 {α:Type} {enc:α→List C×Hp} {out:α→C×Hp} {f:Nat} (h:∀a,FC P gl f (enc a).1 (enc a).2 (out a).1 (out a).2):CxOK ⟨P,M,gl,pu,Sx.extH hp f (nu enc out),fun _=>false,km,true⟩:=by
 refine ⟨hcx.glo,hcx.pu,fun g xs k c k' hc=>?_,hcx.km⟩
 by_cases hgf:g=f
 . subst hgf
   have hc':nu enc out xs k=some (c,k'):=by rw[←hc];exact (sr xs k).symm
   obtain ⟨a,e1,e2⟩:=yG hc'
   have:=h a
   rw[e1,e2] at this
   exact this
 . have hc':hp g xs k=some (c,k'):=by rw[←hc];exact (yH hgf xs k).symm
   exact hcx.hp g xs k c k' hc'
end Go.Sx
namespace Go.Sx
open Go.RowKit Go.ChangeShapes Go.WideShapes
structure BulkOK {H:Type} (B:DataW H→Nat) (BA:List (DataW H)→Nat):Prop where
 one:∀d,1≤B d
 str:∀s,B (.lit (.string s)) =s.length+1
 slice:∀e s,B (.slice e s) =BA e+BA s+1
 agg:∀e,B (.agg e) =BA e+1
 nil:BA [] =0
 cons:∀d r,BA (d::r) =B d+BA r
end Go.Sx
namespace Go.Sx
open Go.RowKit Go.ChangeShapes Go.WideShapes
end Go.Sx
namespace Go.Sx
open Go.RowKit
end Go.Sx
namespace Go.Sx
open Go.RowKit
def Cx.grow (cx:Cx)(l:List Nat):Cx:= { cx with gr:=fun t=>l.contains t }
section
variable {cx:Cx} {n:Nat} {st:St} {Q:Ex→St→Prop} {G:Gh} {w:World} {h:Hp}
theorem CxOK.grow (hcx:CxOK cx)(l:List Nat):CxOK (cx.grow l):=⟨hcx.glo,hcx.pu,hcx.hp,hcx.km⟩
theorem Sim.grow {a:Act}(H:Sim cx G w st a)(l:List Nat):Sim (cx.grow l) G w st a:=⟨H.defers,H.size,H.pre.ok,H.pre.env,H.pre.glob⟩
theorem Sim.ungrow {a:Act}{l:List Nat}(H:Sim (cx.grow l) G w st a):Sim cx G w st a:=⟨H.defers,H.size,H.pre.ok,H.pre.env,H.pre.glob⟩
theorem DG (l:List Nat){c:Code}(H:Tr (cx.grow l) n c st Q):Tr cx n c st Q:=fun r hr G w a S R hR=>
 H r hr G w a (S.grow l) R fun x s G' w' a' q S' F=>hR x s G' w' a' q S'.ungrow F
theorem yI (hcx:CxOK cx)(gs:List Nat){e:List (Nat×C)}{id:Nat}{l:List Oper}(apps:List Nat)(dsts:List (Option Nat))(z:Hp)(h1:l.filterMap cu=apps)(h2:l.map (·.dst) =dsts)(h3:eB l=z)
 (H:run (cx.grow gs) apps dsts l h.length e (h++z) [] (fun _ s=>Q .normal s)):Tr cx n (.region id l.toArray false) ⟨A e,h⟩ Q:=
 DG gs (Tr.rg (hcx.grow gs) apps dsts z h1 h2 h3 H)
theorem Ga (hcx:CxOK cx)(hm:cx.P.follows .mixedOrders=true)(gs:List Nat){e:List (Nat×C)}{id:Nat}{l:List Oper}(apps:List Nat)(dsts:List (Option Nat))(z:Hp)(h1:l.filterMap cu=apps)(h2:l.map (·.dst) =dsts)(h3:eB l=z)
 (hs:eh l.toArray=true)
 (H:run (cx.grow gs) apps dsts l h.length e (h++z) [] (fun fs s=>fK l.toArray fs.reverse=true∧Q .normal s)):Tr cx n (.region id l.toArray true) ⟨A e,h⟩ Q:=
 DG gs (xI (hcx.grow gs) hm apps dsts z h1 h2 h3 hs H)
theorem Tr.virt {c:Code}(H:Tr cx n c ⟨st.env,st.h++[some []]⟩ Q):Tr cx n c st Q:=fun r hr G w a S R hR=>
 H r hr G w a ⟨S.defers,S.size,S.pre.ok.virt,S.pre.env,S.pre.glob⟩ R hR
theorem nv (b:Nat)(s:Nat×Nat):CLe (.val (.slice none 0 0)) (.gv b 0 s):=
 ⟨fun G v h=>by rw[am] at h;simp only[Rep];exact ⟨none,0,h,Nat.le_refl _,Nat.zero_le _,.inl ⟨trivial,rfl⟩⟩,fun s n xs e=>by cases e⟩
def dF:List Nat→Nat→Nat→Option Nat
 | [],_,_=>none
 |x::r,k,b=>if b=x then some k else dF r (k+1) b
theorem eN:∀ {ρ:List Nat}{k b j:Nat},dF ρ k b=some j→k≤j∧ρ[j - k]? =some b
 | [],k,b,j,h=>by cases h
 |x::r,k,b,j,h=>by
  simp only[dF] at h
  split at h
  . rename_i e;cases h;subst e;simp
  . obtain ⟨h1,h2⟩:=eN h
    refine ⟨by omega,?_⟩
    have:j - k= (j - (k+1))+1:=by omega
    rw[this,List.getElem?_cons_succ];exact h2
mutual
def aY (ρ:List Nat):C→C
 | .sv b o n=>match dF ρ 0 b with|some j=> .sv j o n|none=> .top
 | .gv b n s=>match dF ρ 0 b with|some j=> .gv j n s|none=> .top
 | .bp b o=>match dF ρ 0 b with|some j=> .bp j o|none=> .top
 | .mp b=>match dF ρ 0 b with|some j=> .mp j|none=> .top
 | .bt b t n=>match dF ρ 0 b with|some j=> .bt j t n|none=> .top
 | .sl r n xs=> .sl r n (mvCs ρ xs)
 | .kp xs=> .kp (mvCs ρ xs)
 | .agg xs=> .agg (mvCs ρ xs)
 | .tup xs=> .tup (mvCs ρ xs)
 | .fn f xs=> .fn f (mvCs ρ xs)
 | .top=> .top
 | .val v=> .val v
def mvCs (ρ:List Nat):List C→List C
 | [] =>[]
 |x::xs=>aY ρ x::mvCs ρ xs
end
theorem kw (ρ:List Nat):∀xs:List C,mvCs ρ xs=xs.map (aY ρ)
 | [] =>rfl
 |x::xs=>by simp[mvCs,kw ρ xs]
def gE (ρ:List Nat)(h:Hp):Hp:=ρ.map fun b=>((h[b]?).getD none).map (mvCs ρ)
def cP (ρ:List Nat)(G:Gh):Gh where
 K:=G.K
 μ:=fun j=>(ρ[j]?).bind G.μ
 T:=fun g=>match G.T g with
  |some p=>if p.1=1 then (dF ρ 0 p.2.1).map (fun j=>(1,j,p.2.2)) else some p
  |none=>none
 σ:=fun j=>(ρ[j]?).bind G.σ
mutual
theorem jO {ρ:List Nat}:∀ (c:C)(v:Value),Rep G c v→Rep (cP ρ G) (aY ρ c) v
 | .top,_,_=>by simp[aY,Rep]
 | .val u,v,r=>by simpa[aY,Rep] using r
 | .sl r n xs,v,x=>by
   simp only[aY,Rep] at x ⊢
   obtain ⟨a,cap,h1,h2,h3,h4,h5⟩:=x
   refine ⟨a,cap,h1,h2,h3,h4,?_⟩
   rcases h5 with h5| ⟨blk,off,ha,hk⟩
   . left;rw[h5];rfl
   . exact .inr ⟨blk,off,ha,mvC_repK xs blk off hk⟩
 | .sv b off n,v,x=>by
   simp only[aY]
   cases hl:dF ρ 0 b with
   |none=>simp[Rep]
   |some j=>
    have hj:=(eN hl).2
    simp only[Rep] at x ⊢
    obtain ⟨a,cap,h1,h2,h3,h4⟩:=x
    exact ⟨a,cap,h1,h2,h3,fun hz=>by obtain ⟨blk,q1,q2⟩:=h4 hz;exact ⟨blk,by simp only[cP,Nat.sub_zero] at hj ⊢;rw[hj];exact q1,q2⟩⟩
 | .gv b m s,v,x=>by
   simp only[aY]
   cases hl:dF ρ 0 b with
   |none=>simp[Rep]
   |some j=>
    have hj:=(eN hl).2
    simp only[Nat.sub_zero] at hj
    simp only[Rep] at x ⊢
    obtain ⟨a,cap,h1,h2,h3,h4⟩:=x
    refine ⟨a,cap,h1,h2,h3,?_⟩
    rcases h4 with h4| ⟨blk,q1,q2,q3⟩
    . exact .inl h4
    . exact .inr ⟨blk,by simp only[cP];rw[hj];exact q1,q2,by simp only[cP];rw[hj];exact q3⟩
 | .bp b off,v,x=>by
   simp only[aY]
   cases hl:dF ρ 0 b with
   |none=>simp[Rep]
   |some j=>
    have hj:=(eN hl).2
    simp only[Nat.sub_zero] at hj
    simp only[Rep] at x ⊢
    obtain ⟨blk,h1,h2⟩:=x
    exact ⟨blk,by simp only[cP];rw[hj];exact h1,h2⟩
 | .mp b,v,x=>by
   simp only[aY]
   cases hl:dF ρ 0 b with
   |none=>simp[Rep]
   |some j=>
    have hj:=(eN hl).2
    simp only[Nat.sub_zero] at hj
    simp only[Rep] at x ⊢
    obtain ⟨blk,h1,h2⟩:=x
    exact ⟨blk,by simp only[cP];rw[hj];exact h1,h2⟩
 | .bt b t n,v,x=>by
   simp only[aY]
   cases hl:dF ρ 0 b with
   |none=>simp[Rep]
   |some j=>
    have hj:=(eN hl).2
    simp only[Nat.sub_zero] at hj
    simp only[Rep] at x ⊢
    obtain ⟨blk,h1,h2,h3⟩:=x
    exact ⟨blk,by simp only[cP];rw[hj];exact h1,h2,by simp only[cP];rw[hj];exact h3⟩
 | .kp xs,v,x=>by
   simp only[aY,Rep] at x ⊢
   obtain ⟨blk,off,h1,h2⟩:=x
   exact ⟨blk,off,h1,mvC_repK xs blk off h2⟩
 | .agg xs,v,x=>by
   simp only[aY,Rep] at x ⊢
   obtain ⟨vs,h1,h2,h3⟩:=x
   exact ⟨vs,h1,mvC_repL xs _ h2,h3⟩
 | .tup xs,v,x=>by
   simp only[aY,Rep] at x ⊢
   obtain ⟨vs,h1,h2⟩:=x
   exact ⟨vs,h1,mvC_repL xs _ h2⟩
 | .fn f xs,v,x=>by
   simp only[aY,Rep] at x ⊢
   obtain ⟨vs,h1,h2⟩:=x
   exact ⟨vs,h1,mvC_repL xs _ h2⟩
theorem mvC_repL {ρ:List Nat}:∀ (xs:List C)(vs:List Value),RepL G xs vs→RepL (cP ρ G) (mvCs ρ xs) vs
 | [],vs,r=>by simpa[mvCs,RepL] using r
 |x::xs,vs,r=>by
  simp only[mvCs,RepL] at r ⊢
  obtain ⟨v,vs',h1,h2,h3⟩:=r
  exact ⟨v,vs',h1,jO x v h2,mvC_repL xs vs' h3⟩
theorem mvC_repK {ρ:List Nat}:∀ (xs:List C)(blk off:Nat),RepK G blk off xs→RepK (cP ρ G) blk off (mvCs ρ xs)
 | [],_,_,_=>by simp[mvCs,RepK]
 |x::xs,blk,off,r=>by
  simp only[mvCs,RepK] at r ⊢
  obtain ⟨⟨u,h1,h2,h3⟩,h4⟩:=r
  exact ⟨⟨u,h1,h2,jO x u h3⟩,mvC_repK xs blk (off+1) h4⟩
end
theorem uv {ρ:List Nat}{c:C}{s m:Nat}{xs:List C}(h:aY ρ c= .sl (.own s) m xs):∃ys,c= .sl (.own s) m ys:=by
 cases c with
 |sl r k ys=>simp only[aY] at h;cases h;exact ⟨ys,rfl⟩
 |sv b o k=>simp only[aY] at h;split at h<;>cases h
 |gv b o k=>simp only[aY] at h;split at h<;>cases h
 |bp b o=>simp only[aY] at h;split at h<;>cases h
 |mp b=>simp only[aY] at h;split at h<;>cases h
 |bt b t n=>simp only[aY] at h;split at h<;>cases h
 |_=>simp only[aY] at h;cases h
theorem ot {ρ:List Nat}{j:Nat}{cells:List C}(hj:Hp.at (gE ρ h) j=some cells):∃b cells0,ρ[j]? =some b∧h.at b=some cells0∧cells=mvCs ρ cells0:=by
 have h1:=eG hj
 unfold gE at h1
 rw[List.getElem?_map] at h1
 cases hb:ρ[j]? with
 |none=>rw[hb] at h1;cases h1
 |some b=>
  rw[hb] at h1
  simp only[Option.map_some,Option.some.injEq] at h1
  cases hq:h[b]? with
  |none=>rw[hq] at h1;cases h1
  |some o=>
   rw[hq] at h1
   cases o with
   |none=>cases h1
   |some cells0=>
    simp only[Option.getD_some,Option.map_some,Option.some.injEq] at h1
    refine ⟨b,cells0,rfl,?_,h1.symm⟩
    have hl:=fI hj
    unfold Hp.at
    rw[hq]
    subst h1
    show aQ (some cells0) =_
    cases cells0 with
    |nil=>rfl
    |cons x l=>
     cases x with
     |tup xs=>simp only[mvCs,aY] at hl;cases hl
     |_=>rfl
theorem su {ρ:List Nat}:∀ (l:List C)(es:List MapEntry),MRep G l es→MRep (cP ρ G) (mvCs ρ l) es
 | [],_,r=>by simpa[MRep,mvCs] using r
 | [_],_,r=>by simp[MRep] at r
 |k::v::l,es,r=>by
  simp only[MRep,mvCs] at r ⊢
  obtain ⟨e,es',h1,h2,h3,h4⟩:=r
  exact ⟨e,es',h1,jO k _ h2,jO v _ h3,su l es' h4⟩
theorem yJ {ρ:List Nat}{c:C}{u:Value}(h:aY ρ c= .val u):c= .val u:=by
 cases c with
 |val v=>simp only[aY] at h;exact h
 |sv b o k=>simp only[aY] at h;split at h<;>cases h
 |gv b o k=>simp only[aY] at h;split at h<;>cases h
 |bp b o=>simp only[aY] at h;split at h<;>cases h
 |mp b=>simp only[aY] at h;split at h<;>cases h
 |bt b t n=>simp only[aY] at h;split at h<;>cases h
 |_=>simp only[aY] at h;cases h
theorem yK {ρ:List Nat}{c:C}{xs:List C}(h:aY ρ c= .tup xs):∃ys,c= .tup ys∧xs=mvCs ρ ys:=by
 cases c with
 |tup ys=>simp only[aY] at h;cases h;exact ⟨ys,rfl,rfl⟩
 |sv b o k=>simp only[aY] at h;split at h<;>cases h
 |gv b o k=>simp only[aY] at h;split at h<;>cases h
 |bp b o=>simp only[aY] at h;split at h<;>cases h
 |mp b=>simp only[aY] at h;split at h<;>cases h
 |bt b t n=>simp only[aY] at h;split at h<;>cases h
 |_=>simp only[aY] at h;cases h
theorem pw {F:C→C}{Fs:List C→List C}(hs:∀xs,Fs xs=xs.map F)(hv:∀c u,F c= .val u→c= .val u)(ht:∀c xs,F c= .tup xs→∃ys,c= .tup ys∧xs=Fs ys){cells l:List C}(h:eu (some (Fs cells)) =some l):∃l0,eu (some cells) =some l0∧l=Fs l0:=by
 cases cells with
 |nil=>rw[hs] at h;cases h
 |cons c cs=>
  rw[hs,List.map_cons] at h
  cases hq:F c with
  |tup xs=>
   obtain ⟨ys,rfl,rfl⟩:=ht c xs hq
   rw[hq] at h
   cases ys with
   |nil=>rw[hs] at h;cases h
   |cons y ys=>
    rw[hs,List.map_cons] at h
    cases hy:F y with
    |val u=>
     have:=hv y u hy
     subst this
     rw[hy] at h
     cases u with
     |bool b=>
      cases b with
      |true=>cases h;exact ⟨ys,rfl,(hs ys).symm⟩
      |false=>cases h
     |_=>cases h
    |_=>rw[hy] at h;cases h
  |_=>rw[hq] at h;cases h
theorem sw {ρ:List Nat}{h:Hp}{j:Nat}{l:List C}(hj:Hp.mp (gE ρ h) j=some l):∃b l0,ρ[j]? =some b∧h.mp b=some l0∧l=mvCs ρ l0:=by
 unfold Hp.mp gE at hj
 rw[List.getElem?_map] at hj
 cases hb:ρ[j]? with
 |none=>rw[hb] at hj;cases hj
 |some b=>
  rw[hb] at hj
  simp only[Option.map_some,Option.bind_some] at hj
  cases hq:h[b]? with
  |none=>rw[hq] at hj;cases hj
  |some o=>
   rw[hq] at hj
   cases o with
   |none=>cases hj
   |some cells0=>
    obtain ⟨l0,h1,h2⟩:=pw (Fs:=mvCs ρ) (kw ρ) (fun _ _=>yJ) (fun _ _=>yK) (cells:=cells0) hj
    exact ⟨b,l0,rfl,by unfold Hp.mp;rw[hq];exact h1,h2⟩
def px (n:Nat)(ρ:List Nat):Prop:=ρ.Nodup∧n≤ρ.length∧∀j,j< n→ρ[j]? =some j
theorem ia:∀ {ρ:List Nat}{k j b:Nat},ρ.Nodup→ρ[j]? =some b→dF ρ k b=some (k+j)
 |x::r,k,0,b,hn,h=>by simp at h;subst h;simp[dF]
 |x::r,k,j+1,b,hn,h=>by
  rw[List.getElem?_cons_succ] at h
  have hx:b≠x:=fun e=>by
   subst e
   exact (List.nodup_cons.1 hn).1 (List.mem_of_getElem? h)
  simp only[dF]
  rw[if_neg hx,ia (List.nodup_cons.1 hn).2 h]
  congr 1;omega
 | [],k,j,b,hn,h=>by simp at h
theorem OwnRow.mv {ρ:List Nat}{p p':bg}{v:Value}{s m:Nat}(O:OwnRow G w p v s m)(hp: (p.1≠1∧p'=p)∨(p.1=1∧∃j,dF ρ 0 p.2.1=some j∧p'= (1,j,p.2.2))):OwnRow (cP ρ G) w p' v s m:=by
 rcases O with O| ⟨g,cap,cur,e,a1,a2,a3,a4,a5,a6⟩
 . exact .inl O
 . refine .inr ⟨g,cap,cur,e,a1,?_,a3,a4,a5,fun b hb=>?_⟩
   . simp only[cP,a2]
     rcases hp with ⟨h1,rfl⟩ | ⟨h1,j,h2,rfl⟩
     . rw[if_neg h1]
     . rw[if_pos h1,h2];rfl
   . simp only[cP] at hb
     cases hq:ρ[b]? with
     |none=>rw[hq] at hb;cases hb
     |some q=>rw[hq] at hb;exact a6 q hb
theorem WorldOK.mv {ρ:List Nat}(H:WorldOK G h w)(hρ:ρ.Nodup):WorldOK (cP ρ G) (gE ρ h) w:=by
 have hμ:∀ {j blk},(cP ρ G).μ j=some blk→∃b,ρ[j]? =some b∧G.μ b=some blk:=fun {j blk} x=>by
  simp only[cP] at x
  cases hq:ρ[j]? with
  |none=>rw[hq] at x;cases x
  |some q=>rw[hq] at x;exact ⟨q,rfl,x⟩
 refine ⟨H.known,fun j cells hj=>?_,fun j blk hm=>?_,fun j j' c c' blk hj hj' hm hm'=>?_,fun j blk hm=>?_,fun g p hg=>?_,fun j cells off s m xs blk v hj hc hm hv=>?_,fun j z hz=>?_,fun j l hj=>?_,fun j j' l l' blk x x' y y'=>?_⟩
 . obtain ⟨b,cells0,h1,h2,rfl⟩:=ot hj
   rcases H.box b cells0 h2 with ⟨hE,hE2⟩ | ⟨blk,cs,e,q1,q2,q3,q4,q5⟩
   . exact .inl ⟨by rw[hE];rfl,by simp only[cP,h1];exact hE2⟩
   . have hl: (mvCs ρ cells0).length=cells0.length:=by rw[kw];simp
     exact .inr ⟨blk,cs,e,by simp only[cP,h1];exact q1,q2,by rw[hl];exact q3,by rw[hl];exact mvC_repL _ _ q4,q5⟩
 . obtain ⟨b,h1,h2⟩:=hμ hm
   obtain ⟨⟨c,hc⟩,hl⟩:=H.dom b blk h2
   refine ⟨⟨mvCs ρ c,?_⟩,hl⟩
   unfold gE
   rw[List.getElem?_map,h1]
   simp[hc]
 . obtain ⟨b,h1,h2⟩:=hμ hm
   obtain ⟨b',h1',h2'⟩:=hμ hm'
   obtain ⟨q,cells0,g1,g2,_⟩:=ot hj
   obtain ⟨q',cells0',g1',g2',_⟩:=ot hj'
   rw[h1] at g1;cases g1
   rw[h1'] at g1';cases g1'
   have e:=H.inj b b' _ _ blk g2 g2' h2 h2'
   subst e
   have l1:=ia (k:=0) hρ h1
   have l2:=ia (k:=0) hρ h1'
   rw[l1] at l2
   simpa using l2
 . obtain ⟨b,h1,h2⟩:=hμ hm
   obtain ⟨s1,s2⟩:=H.sep b blk h2
   exact ⟨s1,by simp only[cP,s2]⟩
 . cases hq:G.T g with
   |none=>simp only[cP,hq] at hg;cases hg
   |some q=>exact H.tlt g q hq
 . obtain ⟨b,cells0,h1,h2,rfl⟩:=ot hj
   obtain ⟨b',h1',h2'⟩:=hμ hm
   rw[h1] at h1';cases h1'
   rw[kw,List.getElem?_map] at hc
   cases hq:cells0[off]? with
   |none=>rw[hq] at hc;cases hc
   |some y=>
    rw[hq] at hc
    simp only[Option.map_some,Option.some.injEq] at hc
    obtain ⟨ys,rfl⟩:=uv hc
    have O:=H.own b cells0 off s m ys blk v h2 hq h2' hv
    have l1:=ia (k:=0) hρ h1
    exact O.mv (.inr ⟨rfl,j,by simpa using l1,rfl⟩)
 . simp only[cP] at hz
   cases hq:ρ[j]? with
   |none=>rw[hq] at hz;cases hz
   |some b=>
    rw[hq] at hz
    obtain ⟨blk,cs,e,fr,q1,q2,q3⟩:=H.siz b z hz
    exact ⟨blk,cs,e,fr,by simp only[cP,hq];exact q1,q2,q3⟩
 . obtain ⟨b,l0,h1,h2,rfl⟩:=sw hj
   obtain ⟨blk,es,clk,q1,q2,q3⟩:=H.mpo b l0 h2
   exact ⟨blk,es,clk,by simp only[cP,h1];exact q1,q2,su l0 _ q3⟩
 . obtain ⟨b,l0,h1,h2,rfl⟩:=sw x
   obtain ⟨b',l0',h1',h2',rfl⟩:=sw x'
   obtain ⟨q,g1,g2⟩:=hμ y
   obtain ⟨q',g1',g2'⟩:=hμ y'
   rw[h1] at g1;cases g1
   rw[h1'] at g1';cases g1'
   have e:=H.mpi b b' _ _ blk h2 h2' g2 g2'
   subst e
   have l1:=ia (k:=0) hρ h1
   have l2:=ia (k:=0) hρ h1'
   rw[l1] at l2
   simpa using l2
theorem Gb {ρ:List Nat}(hρ:px n ρ):FrmN n G w (cP ρ G) w:=
 ⟨rfl,rfl,rfl,Nat.le_refl _,fun _ _ _ x=>x,fun b k hb x=>by simp only[cP];rw[hρ.2.2 b hb];exact x,fun b k hb x=>by simp only[cP];rw[hρ.2.2 b hb];exact x,
   fun g _ ht hm=>⟨rfl,by simp only[cP,ht],fun j hj=>by
    simp only[cP] at hj
    cases hq:ρ[j]? with
    |none=>rw[hq] at hj;cases hj
    |some q=>rw[hq] at hj;exact hm q hj,fun _=>rfl⟩⟩
theorem qE {ρ:List Nat}{c:C}{v:Value}(hc:ag 0 c=true)(h:Rep G c v):Rep (cP ρ G) c v:=by
 have h1:=dx c v hc h
 have le: (bm G 0).Le (cP ρ G):=⟨fun _ _ _ x=>x,fun b k x=>by simp[bm] at x,fun b k x=>by simp[bm] at x⟩
 exact h1.mono le
theorem Sim.mv (hcx:CxOK cx){a:Act}{ρ:List Nat}(hρ:ρ.Nodup)(H:Sim cx G w st a):Sim cx (cP ρ G) w ⟨fun t=>aY ρ (st.env t),gE ρ st.h⟩ a:=
 ⟨H.defers.same (fun g h=>by simp only[cP,h]) (fun g h b hb=>by
   simp only[cP] at hb
   cases hq:ρ[b]? with
   |none=>rw[hq] at hb;cases hb
   |some j=>rw[hq] at hb;exact h j hb),H.size,H.pre.ok.mv hρ,⟨fun t=>jO _ _ (H.pre.env.1 t),fun t s m xs e=>by
   obtain ⟨ys,hy⟩:=uv e
   exact (H.pre.env.2 t s m ys hy).mv (.inl ⟨by simp,rfl⟩)⟩,fun g=>qE (hcx.glo g) (H.pre.glob g)⟩
theorem Tr.mv (hcx:CxOK cx){c:Code}(ρ:List Nat)(hρ:px n ρ)(H:Tr cx n c ⟨fun t=>aY ρ (st.env t),gE ρ st.h⟩ Q):Tr cx n c st Q:=fun r hr G w a S R hR=>
 H r hr (cP ρ G) w a (S.mv hcx hρ.1) R fun x s G' w' a' q S' F=>hR x s G' w' a' q S' ((Gb hρ).transA F)
def Ry (n:Nat)(P:St→Prop)(s:St):Prop:= ∃ρ:List Nat,px n ρ∧P ⟨fun t=>aY ρ (s.env t),gE ρ s.h⟩
theorem BX {α:Type}(hcx:CxOK cx)(I:α→List (Nat×C))(H:α→Hp)(ok:α→Prop)(μ:α→Nat){c:Code}(a:α)(h0:ok a)(hl:Le st.env (I a))(hh:st.h=H a)
 (hb:∀a,ok a→Tr cx n c ⟨A (I a),H a⟩ (l7 (Ry n (At I H fun a'=>ok a'∧μ a'< μ a)) Q)):Tr cx n (.loop c) st Q:=by
 refine Tr.loop (fun m s=> ∃ρ,px n ρ∧∃a,μ a=m∧ok a∧Le (fun t=>aY ρ (s.env t)) (I a)∧gE ρ s.h=H a∨(μ a=m∧ok a∧Le s.env (I a)∧s.h=H a)) (μ a) ⟨List.range n,⟨List.nodup_range,by simp,fun j hj=>by simp[hj]⟩,a,.inr ⟨rfl,h0,hl,hh⟩⟩ ?_
 rintro m s ⟨ρ,hρ,a,⟨rfl,h1,h2,h3⟩ | ⟨rfl,h1,h2,h3⟩⟩
 . refine Tr.mv hcx ρ hρ (Tr.live _ h2 ?_)
   rw[h3]
   refine (hb a h1).mono fun e s q=>?_
   cases e with
   |normal=>
    obtain ⟨ρ',hρ',a',⟨q1,q2⟩,q3,q4⟩:=q
    exact ⟨μ a',q2,ρ',hρ',a',.inl ⟨rfl,q1,q3,q4⟩⟩
   |exit id=>exact q
   |ret=>exact q
 . refine Tr.live _ h2 ?_
   rw[h3]
   refine (hb a h1).mono fun e s q=>?_
   cases e with
   |normal=>
    obtain ⟨ρ',hρ',a',⟨q1,q2⟩,q3,q4⟩:=q
    exact ⟨μ a',q2,ρ',hρ',a',.inl ⟨rfl,q1,q3,q4⟩⟩
   |exit id=>exact q
   |ret=>exact q
end
end Go.Sx
namespace Go.Sx
open Go.RowKit
def c8 (h:Hp)(b b':Nat):Bool:=((h.at b').isSome|| (h.mp b').isSome) && b' !=b
mutual
def cX (ok:Nat→Bool):C→C
 | .sv b o n=>if ok b=true then .sv b o n else .top
 | .gv b n s=>if ok b=true then .gv b n s else .top
 | .bp b o=>if ok b=true then .bp b o else .top
 | .mp b=>if ok b=true then .mp b else .top
 | .bt b t n=>if ok b=true then .bt b t n else .top
 | .sl r n xs=> .sl r n (scrs ok xs)
 | .kp xs=> .kp (scrs ok xs)
 | .agg xs=> .agg (scrs ok xs)
 | .tup xs=> .tup (scrs ok xs)
 | .fn f xs=> .fn f (scrs ok xs)
 | .top=> .top
 | .val v=> .val v
def scrs (ok:Nat→Bool):List C→List C
 | [] =>[]
 |x::xs=>cX ok x::scrs ok xs
end
mutual
def aU (ok:Nat→Bool)(b:Nat)(ys:List C):C→C
 | .sv b' o n=>if b'=b then (if o+n≤ys.length then .sl .no n ((ys.drop o).take n) else .top) else if ok b'=true then .sv b' o n else .top
 | .gv b' n s=>if b'=b then (if n*s.1≤ys.length then .sl .no n (ys.take (n*s.1)) else .top) else if ok b'=true then .gv b' n s else .top
 | .bp b' o=>if b'=b then .kp (ys.drop o) else if ok b'=true then .bp b' o else .top
 | .mp b'=>if b'=b then .top else if ok b'=true then .mp b' else .top
 | .bt b' t n=>if b'=b then .top else if ok b'=true then .bt b' t n else .top
 | .sl r n xs=> .sl r n (fzCs ok b ys xs)
 | .kp xs=> .kp (fzCs ok b ys xs)
 | .agg xs=> .agg (fzCs ok b ys xs)
 | .tup xs=> .tup (fzCs ok b ys xs)
 | .fn f xs=> .fn f (fzCs ok b ys xs)
 | .top=> .top
 | .val v=> .val v
def fzCs (ok:Nat→Bool)(b:Nat)(ys:List C):List C→List C
 | [] =>[]
 |x::xs=>aU ok b ys x::fzCs ok b ys xs
end
theorem nw (ok:Nat→Bool):∀xs:List C,scrs ok xs=xs.map (cX ok)
 | [] =>rfl
 |x::xs=>by simp[scrs,nw ok xs]
theorem gR (ok:Nat→Bool)(b:Nat)(ys:List C):∀xs:List C,fzCs ok b ys xs=xs.map (aU ok b ys)
 | [] =>rfl
 |x::xs=>by simp[fzCs,gR ok b ys xs]
def jn (ok:Nat→Bool)(b:Nat)(ys:List C)(h:Hp):Hp:=(h.map fun o=>o.map (fzCs ok b ys)).set b (some cO)
open Classical in
noncomputable def cw (G:Gh)(w:World)(b k:Nat):Gh where
 K:=fun g o=>if G.μ b=some g∧o< k then w.cell? ⟨g,o,none⟩ else G.K g o
 μ:=fun b'=>if b'=b∨(∃g,G.μ b=some g∧G.μ b'=some g) then none else G.μ b'
 T:=G.T
 σ:=fun b'=>if b'=b∨(∃g,G.μ b=some g∧G.μ b'=some g) then none else G.σ b'
section
variable {cx:Cx} {n:Nat} {st:St} {Q:Ex→St→Prop} {G:Gh} {w:World} {h:Hp} {b:Nat} {cells:List C}
theorem uw (H:WorldOK G h w)(hb:h.at b=some cells){b':Nat}(hok:c8 h b b'=true):¬ (b'=b∨(∃g,G.μ b=some g∧G.μ b'=some g)):=by
 simp only[c8,Bool.and_eq_true,Bool.or_eq_true,bne_iff_ne,ne_eq] at hok
 obtain ⟨h1,h2⟩:=hok
 rintro (e| ⟨g,e1,e2⟩)
 . exact h2 e
 . rcases h1 with h1|h1
   . obtain ⟨c',hc'⟩:=Option.isSome_iff_exists.1 h1
     exact h2 (H.inj b' b _ _ g hc' hb e2 e1)
   . obtain ⟨l',hl'⟩:=Option.isSome_iff_exists.1 h1
     obtain ⟨blk,es,clk,q1,q2,_⟩:=H.mpo b' l' hl'
     rw[e2] at q1;cases q1
     obtain ⟨cs,e,⟨fr,r2,_⟩,_⟩:=H.bx hb e1
     rw[q2] at r2;cases r2
theorem md (H:WorldOK G h w)(k:Nat): (bm G 0).Le (cw G w b k):=
 ⟨fun g o u x=>(by
   have x':G.K g o=some u:=x
   simp only[cw]
   rw[if_neg]
   . exact x'
   . rintro ⟨e,_⟩
     rw[(H.sep b g e).1 o] at x';cases x'),fun b k x=>by simp[bm] at x,fun b k x=>by simp[bm] at x⟩
theorem d7 (H:WorldOK G h w)(hb:h.at b=some cells){b' k g:Nat}(hok:c8 h b b'=true)(hm:G.μ b'=some g): (cw G w b k).μ b'=some g:=by
 simp only[cw];rw[if_neg (uw H hb hok)];exact hm
theorem kz (H:WorldOK G h w)(hb:h.at b=some cells){b' k:Nat}{g:Nat×Nat}(hok:c8 h b b'=true)(hm:G.σ b'=some g): (cw G w b k).σ b'=some g:=by
 simp only[cw];rw[if_neg (uw H hb hok)];exact hm
mutual
theorem py (H:WorldOK G h w)(hb:h.at b=some cells)(k:Nat):∀ (c:C)(v:Value),Rep G c v→Rep (cw G w b k) (cX (c8 h b) c) v
 | .top,_,_=>by simp[cX,Rep]
 | .val u,v,r=>by simpa[cX,Rep] using r
 | .sl r n xs,v,x=>by
   simp only[cX,Rep] at x ⊢
   obtain ⟨a,cap,h1,h2,h3,h4,h5⟩:=x
   refine ⟨a,cap,h1,h2,h3,h4,?_⟩
   rcases h5 with h5| ⟨blk,off,ha,hk⟩
   . left;rw[h5];rfl
   . exact .inr ⟨blk,off,ha,scr_repK H hb k xs blk off hk⟩
 | .sv b' off n,v,x=>by
   simp only[cX]
   split
   . rename_i hok
     simp only[Rep] at x ⊢
     obtain ⟨a,cap,h1,h2,h3,h4⟩:=x
     exact ⟨a,cap,h1,h2,h3,fun hz=>by obtain ⟨blk,q1,q2⟩:=h4 hz;exact ⟨blk,d7 H hb hok q1,q2⟩⟩
   . simp[Rep]
 | .gv b' m s,v,x=>by
   simp only[cX]
   split
   . rename_i hok
     simp only[Rep] at x ⊢
     obtain ⟨a,cap,h1,h2,h3,h4⟩:=x
     refine ⟨a,cap,h1,h2,h3,?_⟩
     rcases h4 with h4| ⟨blk,q1,q2,q3⟩
     . exact .inl h4
     . exact .inr ⟨blk,d7 H hb hok q1,q2,kz H hb hok q3⟩
   . simp[Rep]
 | .bp b' off,v,x=>by
   simp only[cX]
   split
   . rename_i hok
     simp only[Rep] at x ⊢
     obtain ⟨blk,h1,h2⟩:=x
     exact ⟨blk,d7 H hb hok h1,h2⟩
   . simp[Rep]
 | .mp b',v,x=>by
   simp only[cX]
   split
   . rename_i hok
     simp only[Rep] at x ⊢
     obtain ⟨blk,h1,h2⟩:=x
     exact ⟨blk,d7 H hb hok h1,h2⟩
   . simp[Rep]
 | .bt b' t n,v,x=>by
   simp only[cX]
   split
   . rename_i hok
     simp only[Rep] at x ⊢
     obtain ⟨blk,h1,h2,h3⟩:=x
     exact ⟨blk,d7 H hb hok h1,h2,kz H hb hok h3⟩
   . simp[Rep]
 | .kp xs,v,x=>by
   simp only[cX,Rep] at x ⊢
   obtain ⟨blk,off,h1,h2⟩:=x
   exact ⟨blk,off,h1,scr_repK H hb k xs blk off h2⟩
 | .agg xs,v,x=>by
   simp only[cX,Rep] at x ⊢
   obtain ⟨vs,h1,h2,h3⟩:=x
   exact ⟨vs,h1,scr_repL H hb k xs _ h2,h3⟩
 | .tup xs,v,x=>by
   simp only[cX,Rep] at x ⊢
   obtain ⟨vs,h1,h2⟩:=x
   exact ⟨vs,h1,scr_repL H hb k xs _ h2⟩
 | .fn f xs,v,x=>by
   simp only[cX,Rep] at x ⊢
   obtain ⟨vs,h1,h2⟩:=x
   exact ⟨vs,h1,scr_repL H hb k xs _ h2⟩
theorem scr_repL (H:WorldOK G h w)(hb:h.at b=some cells)(k:Nat):∀ (xs:List C)(vs:List Value),RepL G xs vs→RepL (cw G w b k) (scrs (c8 h b) xs) vs
 | [],vs,r=>by simpa[scrs,RepL] using r
 |x::xs,vs,r=>by
  simp only[scrs,RepL] at r ⊢
  obtain ⟨v,vs',h1,h2,h3⟩:=r
  exact ⟨v,vs',h1,py H hb k x v h2,scr_repL H hb k xs vs' h3⟩
theorem scr_repK (H:WorldOK G h w)(hb:h.at b=some cells)(k:Nat):∀ (xs:List C)(blk off:Nat),RepK G blk off xs→RepK (cw G w b k) blk off (scrs (c8 h b) xs)
 | [],_,_,_=>by simp[scrs,RepK]
 |x::xs,blk,off,r=>by
  simp only[scrs,RepK] at r ⊢
  obtain ⟨⟨u,h1,h2,h3⟩,h4⟩:=r
  exact ⟨⟨u,(md H k).K _ _ _ h1,h2,py H hb k x u h3⟩,scr_repK H hb k xs blk (off+1) h4⟩
end
def fzY (h:Hp)(b:Nat)(cells:List C):List C:=(scrs (c8 h b) cells).map C.noR
theorem Gc (h:Hp)(b:Nat)(cells:List C): (fzY h b cells).length=cells.length:=by simp[fzY,nw]
theorem sx (H:WorldOK G h w)(hb:h.at b=some cells){blk:Nat}(hm:G.μ b=some blk):RepK (cw G w b cells.length) blk 0 (fzY h b cells):=by
 obtain ⟨cs,e,⟨fr,q2,_⟩,q0,q3,q4⟩:=H.bx hb hm
 refine RepK.of_get fun i x hx=>?_
 have hil:i< cells.length:=by have:=(List.getElem?_eq_some_iff.1 hx).1;rwa [Gc] at this
 unfold fzY at hx
 rw[nw,List.map_map,List.getElem?_map] at hx
 cases hc:cells[i]? with
 |none=>rw[hc] at hx;cases hx
 |some y=>
  rw[hc] at hx
  simp only[Option.map_some,Option.some.injEq,Function.comp] at hx
  subst hx
  obtain ⟨u,hu,hr⟩:=q3.get i y hc
  rw[List.getElem?_take,if_pos hil] at hu
  refine ⟨u,?_,q4 u (List.mem_of_getElem? hu),(py H hb cells.length y u hr).noR⟩
  simp only[cw,Nat.zero_add]
  rw[if_pos ⟨hm,hil⟩]
  exact o9 q2 _ _ hu
mutual
theorem iI (H:WorldOK G h w)(hb:h.at b=some cells):∀ (c:C)(v:Value),Rep G c v→Rep (cw G w b cells.length) (aU (c8 h b) b (fzY h b cells) c) v
 | .top,_,_=>by simp[aU,Rep]
 | .val u,v,r=>by simpa[aU,Rep] using r
 | .sl r n xs,v,x=>by
   simp only[aU,Rep] at x ⊢
   obtain ⟨a,cap,h1,h2,h3,h4,h5⟩:=x
   refine ⟨a,cap,h1,h2,h3,h4,?_⟩
   rcases h5 with h5| ⟨blk,off,ha,hk⟩
   . left;rw[h5];rfl
   . exact .inr ⟨blk,off,ha,fzC_repK H hb xs blk off hk⟩
 | .sv b' off n,v,x=>by
   simp only[aU]
   split
   . rename_i e
     subst e
     split
     . rename_i hle
       simp only[Rep] at x ⊢
       obtain ⟨a,cap,h1,h2,h3,h4⟩:=x
       refine ⟨a,cap,h1,h2,h3,by simp,?_⟩
       by_cases hn:n=0
       . left;subst hn;simp
       . right
         obtain ⟨blk,q1,q2⟩:=h4 hn
         refine ⟨blk,off,q2,?_⟩
         have:=(sx H hb q1).drop off
         rw[Nat.zero_add] at this
         exact this.take n
     . simp[Rep]
   . split
     . rename_i hok
       simp only[Rep] at x ⊢
       obtain ⟨a,cap,h1,h2,h3,h4⟩:=x
       exact ⟨a,cap,h1,h2,h3,fun hz=>by obtain ⟨blk,q1,q2⟩:=h4 hz;exact ⟨blk,d7 H hb hok q1,q2⟩⟩
     . simp[Rep]
 | .gv b' m s,v,x=>by
   simp only[aU]
   split
   . rename_i e
     subst e
     split
     . rename_i hle
       simp only[Rep] at x ⊢
       obtain ⟨a,cap,h1,h2,h3,h4⟩:=x
       refine ⟨a,cap,h1,h2,h3,by simp,?_⟩
       rcases h4 with ⟨rfl,_⟩ | ⟨blk,q1,q2,q3⟩
       . left;simp
       . right
         exact ⟨blk,0,q2,(sx H hb q1).take _⟩
     . simp[Rep]
   . split
     . rename_i hok
       simp only[Rep] at x ⊢
       obtain ⟨a,cap,h1,h2,h3,h4⟩:=x
       refine ⟨a,cap,h1,h2,h3,?_⟩
       rcases h4 with h4| ⟨blk,q1,q2,q3⟩
       . exact .inl h4
       . exact .inr ⟨blk,d7 H hb hok q1,q2,kz H hb hok q3⟩
     . simp[Rep]
 | .mp b',v,x=>by
   simp only[aU]
   split
   . simp[Rep]
   . split
     . rename_i hok
       simp only[Rep] at x ⊢
       obtain ⟨blk,h1,h2⟩:=x
       exact ⟨blk,d7 H hb hok h1,h2⟩
     . simp[Rep]
 | .bt b' t n,v,x=>by
   simp only[aU]
   split
   . simp[Rep]
   . split
     . rename_i hok
       simp only[Rep] at x ⊢
       obtain ⟨blk,h1,h2,h3⟩:=x
       exact ⟨blk,d7 H hb hok h1,h2,kz H hb hok h3⟩
     . simp[Rep]
 | .bp b' off,v,x=>by
   simp only[aU]
   split
   . rename_i e
     subst e
     simp only[Rep] at x ⊢
     obtain ⟨blk,h1,h2⟩:=x
     refine ⟨blk,off,h2,?_⟩
     have:=(sx H hb h1).drop off
     rwa [Nat.zero_add] at this
   . split
     . rename_i hok
       simp only[Rep] at x ⊢
       obtain ⟨blk,h1,h2⟩:=x
       exact ⟨blk,d7 H hb hok h1,h2⟩
     . simp[Rep]
 | .kp xs,v,x=>by
   simp only[aU,Rep] at x ⊢
   obtain ⟨blk,off,h1,h2⟩:=x
   exact ⟨blk,off,h1,fzC_repK H hb xs blk off h2⟩
 | .agg xs,v,x=>by
   simp only[aU,Rep] at x ⊢
   obtain ⟨vs,h1,h2,h3⟩:=x
   exact ⟨vs,h1,fzC_repL H hb xs _ h2,h3⟩
 | .tup xs,v,x=>by
   simp only[aU,Rep] at x ⊢
   obtain ⟨vs,h1,h2⟩:=x
   exact ⟨vs,h1,fzC_repL H hb xs _ h2⟩
 | .fn f xs,v,x=>by
   simp only[aU,Rep] at x ⊢
   obtain ⟨vs,h1,h2⟩:=x
   exact ⟨vs,h1,fzC_repL H hb xs _ h2⟩
theorem fzC_repL (H:WorldOK G h w)(hb:h.at b=some cells):∀ (xs:List C)(vs:List Value),RepL G xs vs→RepL (cw G w b cells.length) (fzCs (c8 h b) b (fzY h b cells) xs) vs
 | [],vs,r=>by simpa[fzCs,RepL] using r
 |x::xs,vs,r=>by
  simp only[fzCs,RepL] at r ⊢
  obtain ⟨v,vs',h1,h2,h3⟩:=r
  exact ⟨v,vs',h1,iI H hb x v h2,fzC_repL H hb xs vs' h3⟩
theorem fzC_repK (H:WorldOK G h w)(hb:h.at b=some cells):∀ (xs:List C)(blk off:Nat),RepK G blk off xs→RepK (cw G w b cells.length) blk off (fzCs (c8 h b) b (fzY h b cells) xs)
 | [],_,_,_=>by simp[fzCs,RepK]
 |x::xs,blk,off,r=>by
  simp only[fzCs,RepK] at r ⊢
  obtain ⟨⟨u,h1,h2,h3⟩,h4⟩:=r
  exact ⟨⟨u,(md H _).K _ _ _ h1,h2,iI H hb x u h3⟩,fzC_repK H hb xs blk (off+1) h4⟩
end
theorem me {ok:Nat→Bool}{ys:List C}{c:C}{s m:Nat}{xs:List C}(hc:aU ok b ys c= .sl (.own s) m xs):∃zs,c= .sl (.own s) m zs:=by
 cases c with
 |sl r k zs=>simp only[aU] at hc;cases hc;exact ⟨zs,rfl⟩
 |sv b o k=>simp only[aU] at hc;repeat' split at hc
            all_goals cases hc
 |gv b o k=>simp only[aU] at hc;repeat' split at hc
            all_goals cases hc
 |bp b o=>simp only[aU] at hc;repeat' split at hc
          all_goals cases hc
 |bt b t n=>simp only[aU] at hc;repeat' split at hc
            all_goals cases hc
 |mp b=>simp only[aU] at hc;repeat' split at hc
        all_goals cases hc
 |_=>simp only[aU] at hc;cases hc
theorem yM {ok:Nat→Bool}{ys:List C}{c:C}{u:Value}(h:aU ok b ys c= .val u):c= .val u:=by
 cases c with
 |val v=>simp only[aU] at h;exact h
 |sv b o k=>simp only[aU] at h;repeat' split at h
            all_goals cases h
 |gv b o k=>simp only[aU] at h;repeat' split at h
            all_goals cases h
 |bp b o=>simp only[aU] at h;repeat' split at h
          all_goals cases h
 |bt b t n=>simp only[aU] at h;repeat' split at h
            all_goals cases h
 |mp b=>simp only[aU] at h;repeat' split at h
        all_goals cases h
 |_=>simp only[aU] at h;cases h
theorem yN {ok:Nat→Bool}{ys:List C}{c:C}{xs:List C}(h:aU ok b ys c= .tup xs):∃zs,c= .tup zs∧xs=fzCs ok b ys zs:=by
 cases c with
 |tup zs=>simp only[aU] at h;cases h;exact ⟨zs,rfl,rfl⟩
 |sv b o k=>simp only[aU] at h;repeat' split at h
            all_goals cases h
 |gv b o k=>simp only[aU] at h;repeat' split at h
            all_goals cases h
 |bp b o=>simp only[aU] at h;repeat' split at h
          all_goals cases h
 |bt b t n=>simp only[aU] at h;repeat' split at h
            all_goals cases h
 |mp b=>simp only[aU] at h;repeat' split at h
        all_goals cases h
 |_=>simp only[aU] at h;cases h
theorem jP {ok:Nat→Bool}{ys:List C}(hb:b< h.length){j:Nat}{l:List C}(hj:Hp.mp (jn ok b ys h) j=some l):j≠b∧∃l0,h.mp j=some l0∧l=fzCs ok b ys l0:=by
 unfold jn at hj
 obtain ⟨n1,n2⟩:=fm (h:=h.map fun o=>o.map (fzCs ok b ys)) (by simpa using hb) rfl j l hj
 refine ⟨n1,?_⟩
 unfold Hp.mp at n2
 rw[List.getElem?_map] at n2
 cases hq:h[j]? with
 |none=>rw[hq] at n2;cases n2
 |some o=>
  rw[hq] at n2
  cases o with
  |none=>cases n2
  |some c0=>
   obtain ⟨l0,h1,h2⟩:=pw (Fs:=fzCs ok b ys) (gR ok b ys) (fun _ _=>yM) (fun _ _=>yN) (cells:=c0) n2
   exact ⟨l0,by unfold Hp.mp;rw[hq];exact h1,h2⟩
theorem sy (H:WorldOK G h w)(hb:h.at b=some cells):∀ (l:List C)(es:List MapEntry),MRep G l es→MRep (cw G w b cells.length) (fzCs (c8 h b) b (fzY h b cells) l) es
 | [],_,r=>by simpa[MRep,fzCs] using r
 | [_],_,r=>by simp[MRep] at r
 |k::v::l,es,r=>by
  simp only[MRep,fzCs] at r ⊢
  obtain ⟨e,es',h1,h2,h3,h4⟩:=r
  exact ⟨e,es',h1,iI H hb k _ h2,iI H hb v _ h3,sy H hb l es' h4⟩
theorem ib {ok:Nat→Bool}{ys:List C}(hb:h.at b=some cells){j:Nat}{c':List C}(hj:Hp.at (jn ok b ys h) j=some c'):j≠b∧∃c0,h.at j=some c0∧c'=fzCs ok b ys c0:=by
 have hlen:=dS hb
 unfold jn at hj
 rw[bT (by simpa using hlen)] at hj
 split at hj
 . cases hj
 . rename_i hne
   refine ⟨hne,?_⟩
   have h1:=eG hj
   rw[List.getElem?_map] at h1
   cases hq:h[j]? with
   |none=>rw[hq] at h1;cases h1
   |some o=>
    rw[hq] at h1
    cases o with
    |none=>cases h1
    |some c0=>
     simp only[Option.map_some,Option.some.injEq] at h1
     refine ⟨c0,?_,h1.symm⟩
     have hl:=fI hj
     unfold Hp.at
     rw[hq]
     subst h1
     show aQ (some c0) =_
     cases c0 with
     |nil=>rfl
     |cons x l=>
      cases x with
      |tup xs=>simp only[fzCs,aU] at hl;cases hl
      |_=>rfl
theorem OwnRow.fz {k:Nat}{p:bg}{v:Value}{s m:Nat}(O:OwnRow G w p v s m):OwnRow (cw G w b k) w p v s m:=by
 rcases O with O| ⟨g,cap,cur,e,a1,a2,a3,a4,a5,a6⟩
 . exact .inl O
 . refine .inr ⟨g,cap,cur,e,a1,a2,a3,a4,fun o ho=>?_,fun b' hb'=>?_⟩
   . simp only[cw]
     rw[if_neg (fun x=>a6 b x.1)]
     exact a5 o ho
   . simp only[cw] at hb'
     split at hb'
     . cases hb'
     . exact a6 b' hb'
theorem WorldOK.fz (H:WorldOK G h w)(hb:h.at b=some cells):WorldOK (cw G w b cells.length) (jn (c8 h b) b (fzY h b cells) h) w:=by
 have hlen:=dS hb
 have hμ:∀ {j blk},(cw G w b cells.length).μ j=some blk→G.μ j=some blk∧j≠b∧G.μ b≠some blk:=fun {j blk} x=>by
  simp only[cw] at x
  split at x
  . cases x
  . rename_i hne
    refine ⟨x,fun e=>hne (.inl e),fun e=>hne (.inr ⟨blk,e,x⟩)⟩
 refine ⟨fun blk off u hk=>?_,fun j c' hj=>?_,fun j blk hm=>?_,fun j j' c c' blk hj hj' hm hm'=>?_,fun j blk hm=>?_,H.tlt,fun j c' off s m xs blk v hj hc hm hv=>?_,fun j z hz=>?_,fun j l hj=>?_,fun j j' l l' blk x x' y y'=>?_⟩
 . simp only[cw] at hk
   split at hk
   . exact hk
   . exact H.known blk off u hk
 . obtain ⟨hne,c0,h2,rfl⟩:=ib hb hj
   have hok:c8 h b j=true:=by simp[c8,h2,hne]
   rcases H.box j c0 h2 with ⟨hE,hE2⟩ | ⟨blk,cs,e,q1,q2,q3,q4,q5⟩
   . refine .inl ⟨by rw[hE];rfl,?_⟩
     simp only[cw]
     split
     . rfl
     . exact hE2
   . have hl: (fzCs (c8 h b) b (fzY h b cells) c0).length=c0.length:=by rw[gR];simp
     exact .inr ⟨blk,cs,e,d7 H hb hok q1,q2,by rw[hl];exact q3,by rw[hl];exact fzC_repL H hb _ _ q4,q5⟩
 . obtain ⟨h1,h2,h3⟩:=hμ hm
   obtain ⟨⟨c,hc⟩,hl⟩:=H.dom j blk h1
   refine ⟨⟨fzCs (c8 h b) b (fzY h b cells) c,?_⟩,hl⟩
   unfold jn
   rw[List.getElem?_set,if_neg (Ne.symm h2),List.getElem?_map,hc];rfl
 . obtain ⟨h1,_,_⟩:=hμ hm
   obtain ⟨h1',_,_⟩:=hμ hm'
   obtain ⟨_,c0,g2,_⟩:=ib hb hj
   obtain ⟨_,c0',g2',_⟩:=ib hb hj'
   exact H.inj j j' _ _ blk g2 g2' h1 h1'
 . obtain ⟨h1,h2,h3⟩:=hμ hm
   obtain ⟨s1,s2⟩:=H.sep j blk h1
   refine ⟨fun o=>?_,s2⟩
   simp only[cw]
   rw[if_neg (fun x=>h3 x.1)]
   exact s1 o
 . obtain ⟨h1,_,_⟩:=hμ hm
   obtain ⟨_,c0,g2,rfl⟩:=ib hb hj
   rw[gR,List.getElem?_map] at hc
   cases hq:c0[off]? with
   |none=>rw[hq] at hc;cases hc
   |some y=>
    rw[hq] at hc
    simp only[Option.map_some,Option.some.injEq] at hc
    obtain ⟨zs,rfl⟩:=me hc
    exact (H.own j c0 off s m zs blk v g2 hq h1 hv).fz
 . simp only[cw] at hz ⊢
   split at hz
   . cases hz
   . rename_i hne
     obtain ⟨blk,cs,e,fr,q1,q2,q3⟩:=H.siz j z hz
     exact ⟨blk,cs,e,fr,by rw[if_neg hne];exact q1,q2,q3⟩
 . obtain ⟨n1,l0,n2,rfl⟩:=jP hlen hj
   obtain ⟨blk,es,clk,q1,q2,q3⟩:=H.mpo j l0 n2
   have hok:c8 h b j=true:=by simp[c8,n2,n1]
   exact ⟨blk,es,clk,d7 H hb hok q1,q2,sy H hb l0 _ q3⟩
 . obtain ⟨n1,l0,n2,rfl⟩:=jP hlen x
   obtain ⟨n1',l0',n2',rfl⟩:=jP hlen x'
   exact H.mpi j j' _ _ blk n2 n2' (hμ y).1 (hμ y').1
theorem ux (H:WorldOK G h w)(hb:h.at b=some cells)(hnb:n≤b)(hn:∀j,j< n→((h.at j).isSome|| (h.mp j).isSome) =true∨h[j]? =some none)(k:Nat):FrmN n G w (cw G w b k) w:=by
 have keep:∀j,j< n→∀blk,G.μ j=some blk→c8 h b j=true:=fun j hj blk hm=>by
  rcases hn j hj with h1|h1
  . simp[c8,h1];omega
  . obtain ⟨⟨c,hc⟩,_⟩:=H.dom j blk hm
    rw[h1] at hc;cases hc
 refine ⟨rfl,rfl,rfl,Nat.le_refl _,fun g o u x=>(md H k).K g o u x,fun j blk hj x=>d7 H hb (keep j hj blk x) x,fun j z hj x=>?_,fun g _ ht hm=>⟨rfl,ht,fun j hj=>?_,fun o=>?_⟩⟩
 . obtain ⟨blk,_,_,_,q1,_⟩:=H.siz j z x
   exact kz H hb (keep j hj blk q1) x
 . simp only[cw] at hj
   split at hj
   . cases hj
   . exact hm j hj
 . simp only[cw]
   rw[if_neg (fun x=>hm b x.1)]
theorem Tr.fz (hcx:CxOK cx){c:Code}(b:Nat){cells:List C}(hb:st.h.at b=some cells)(hnb:n≤b)(hn:∀j,j< n→((st.h.at j).isSome|| (st.h.mp j).isSome) =true∨st.h[j]? =some none)
 (K:Tr cx n c ⟨fun t=>aU (c8 st.h b) b (fzY st.h b cells) (st.env t),jn (c8 st.h b) b (fzY st.h b cells) st.h⟩ Q):Tr cx n c st Q:=fun r hr G w a S R hR=>
 K r hr (cw G w b cells.length) w a ⟨S.defers.same (fun _ h=>h) (fun g h b' hb'=>by
     simp only[cw] at hb'
     split at hb'
     . cases hb'
     . exact h b' hb'),S.size,S.pre.ok.fz hb,⟨fun t=>iI S.pre.ok hb _ _ (S.pre.env.1 t),fun t s m xs e=>by
     obtain ⟨ys,hy⟩:=me e
     exact (S.pre.env.2 t s m ys hy).fz⟩,fun g=>(dx _ _ (hcx.glo g) (S.pre.glob g)).mono (md S.pre.ok _)⟩ R
   fun x s G' w' a' q S' F=>hR x s G' w' a' q S' ((ux S.pre.ok hb hnb hn _).transA F)
end
end Go.Sx
