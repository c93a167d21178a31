/-
   And what follows.
-/
import Derived.Lib.SlBytesConst
import Derived.SizedLaws
import Derived.JoinedCond
import Derived.Deep.CondSized
import Derived.Below
import Derived.Test.YtcpdlhgkdogdjaaDoorPah
set_option linter.unusedSimpArgs false
set_option linter.unusedVariables false
namespace Go.Sx
open Go.RowKit
section
variable (P:Program) (t:TypeId)
theorem GO (x y:Int)(h: -9223372036854775808≤x+y∧x+y< 9223372036854775808):aR P .add t (.val (.int .i64 x)) (.val (.int .i64 y)) =some (vp (.val (.int .i64 (x+y)))):=by
 simp only[cY,dm,ne_eq,not_true_eq_false,if_false,Option.map_some]
 rw[gU _ (by omega) (by omega)]
theorem MV (x:Int)(y:Nat)(h: -9223372036854775808≤x+y∧x+y< 9223372036854775808):aR P .add t (.val (.int .i64 x)) (.val (nI y)) =some (vp (.val (.int .i64 (x+y)))):=GO P t x y h
theorem s4 (x y:Int)(h: -9223372036854775808≤x - y∧x - y< 9223372036854775808):aR P .sub t (.val (.int .i64 x)) (.val (.int .i64 y)) =some (vp (.val (.int .i64 (x - y)))):=by
 simp only[cY,dm,ne_eq,not_true_eq_false,if_false,Option.map_some]
 rw[gU _ (by omega) (by omega)]
theorem GP (x y:Int)(h:y≠0∧ -9223372036854775808≤x.tdiv y∧x.tdiv y< 9223372036854775808):aR P .quo t (.val (.int .i64 x)) (.val (.int .i64 y)) =some (vp (.val (.int .i64 (x.tdiv y)))):=by
 simp only[cY,dm,ne_eq,not_true_eq_false,if_false,Option.map_some,h.1]
 rw[gU _ (by omega) (by omega)]
theorem MW (x:Int)(y:Nat)(h:0< y)(hx: -9223372036854775808≤x∧x< 9223372036854775808):aR P .quo t (.val (.int .i64 x)) (.val (nI y)) =some (vp (.val (.int .i64 (x.tdiv y)))):=by
 refine GP P t x y ⟨by omega,?_⟩
 have key:∀n:Nat,(n:Int).tdiv (y:Int) = ((n / y:Nat):Int):=fun _=>rfl
 rcases Int.le_total 0 x with h0|h0
 . obtain ⟨n,rfl⟩:=Int.eq_ofNat_of_zero_le h0
   rw[key]
   have:=Nat.div_le_self n y
   generalize n / y=q at this ⊢
   omega
 . obtain ⟨n,hn⟩:=Int.eq_ofNat_of_zero_le (a:= -x) (by omega)
   have e:x= -(n:Int):=by omega
   rw[e,Int.neg_tdiv,key]
   have:=Nat.div_le_self n y
   generalize n / y=q at this ⊢
   omega
theorem GQ (x y:Int)(h:y≠0):aR P .rem t (.val (.int .i64 x)) (.val (.int .i64 y)) =some (vp (.val (.int .i64 (x.tmod y)))):=by
 simp only[cY,dm,ne_eq,not_true_eq_false,if_false,Option.map_some,h]
theorem MX (x:Int)(y:Nat)(h:0< y):aR P .rem t (.val (.int .i64 x)) (.val (nI y)) =some (vp (.val (.int .i64 (x.tmod y)))):=GQ P t x y (by omega)
theorem GR (x y:Int):aR P .eql t (.val (.int .i64 x)) (.val (.int .i64 y)) =some (vp (.val (.bool (decide (x=y))))):=by
 simp only[cY,dm,ne_eq,not_true_eq_false,if_false,Option.map_some]
 congr 4
theorem GS (x y:Int):aR P .lss t (.val (.int .i64 x)) (.val (.int .i64 y)) =some (vp (.val (.bool (decide (x< y))))):=by
 simp only[cY,dm,ne_eq,not_true_eq_false,if_false,Option.map_some]
theorem GT (x y:Int):aR P .leq t (.val (.int .i64 x)) (.val (.int .i64 y)) =some (vp (.val (.bool (decide (x≤y))))):=by
 simp only[cY,dm,ne_eq,not_true_eq_false,if_false,Option.map_some]
theorem GU (x y:Int):aR P .gtr t (.val (.int .i64 x)) (.val (.int .i64 y)) =some (vp (.val (.bool (decide (y< x))))):=by
 simp only[cY,dm,ne_eq,not_true_eq_false,if_false,Option.map_some]
theorem GV (x y:Int):aR P .geq t (.val (.int .i64 x)) (.val (.int .i64 y)) =some (vp (.val (.bool (decide (y≤x))))):=by
 simp only[cY,dm,ne_eq,not_true_eq_false,if_false,Option.map_some]
theorem MY (x:Int)(y:Nat):aR P .eql t (.val (.int .i64 x)) (.val (nI y)) =some (vp (.val (.bool (decide (x=y))))):=GR P t x y
theorem MZ (x:Int)(y:Nat):aR P .lss t (.val (.int .i64 x)) (.val (nI y)) =some (vp (.val (.bool (decide (x< y))))):=GS P t x y
theorem M1 (x:Int)(y:Nat):aR P .leq t (.val (.int .i64 x)) (.val (nI y)) =some (vp (.val (.bool (decide (x≤y))))):=GT P t x y
theorem M2 (x:Int)(y:Nat):aR P .gtr t (.val (.int .i64 x)) (.val (nI y)) =some (vp (.val (.bool (decide ((y:Int) < x))))):=GU P t x y
theorem M3 (x:Int)(y:Nat):aR P .geq t (.val (.int .i64 x)) (.val (nI y)) =some (vp (.val (.bool (decide ((y:Int)≤x))))):=GV P t x y
theorem JF (x:Int)(h: -9223372036854775808< x∧x≤9223372036854775808):iR .neg (.val (.int .i64 x)) =some (vp (.val (.int .i64 (-x)))):=by
 show some (vp (.val (.int .i64 (IntKind.wrap .i64 (0 - x))))) =_
 rw[gU _ (by omega) (by omega),Int.zero_sub]
end
theorem M4 (x y:Nat):io true (.val (nI x)) (.val (nI y)) =some (vp (.val (nI (max x y)))):=by
 simp only[io,nI,if_true]
 by_cases h:x< y
 . rw[if_pos (by omega),Nat.max_eq_right (by omega)];rfl
 . rw[if_neg (by omega),Nat.max_eq_left (by omega)];rfl
theorem cM {x y:Int}(h:x=y):CLe (.val (.int .i64 x)) (.val (.int .i64 y)):=h▸CLe.refl _
theorem cN {x:Int}{y:Nat}(h:x=y):CLe (.val (.int .i64 x)) (.val (nI y)):=h▸CLe.refl _
theorem cO {x:Nat}{y:Int}(h: (x:Int) =y):CLe (.val (nI x)) (.val (.int .i64 y)):=h▸CLe.refl _
theorem cU {x y:Nat}(h:x=y):CLe (.val (nI x)) (.val (nI y)):=h▸CLe.refl _
theorem ql {α:Type}{f:α→List C}{r:Rt}{l l':List α}(h:l=l'):CLe (sl f r l) (sl f r l'):=h▸CLe.refl _
theorem bH {α:Type}{f:α→List C}{r:Rt}{l:List α}(h:l= []):CLe (.val (.slice none 0 0)) (sl f r l):=by subst h;exact CLe.nil _
end Go.Sx
namespace Go.Sx
open Go.RowKit
def lG (k:Nat):Hp→Bool
 | [] =>true
 |none::h=>lG k h
 |some cs::h=>noRefs k cs && lG k h
theorem jA (k:Nat)(cs:List C)(h:Hp):lG k (some cs::h) = (noRefs k cs && lG k h):=rfl
theorem nf (k:Nat):∀ (h:Hp)(b:Nat)(cells:List C),lG k h=true→h[b]? =some (some cells)→noRefs k cells=true
 | [],b,cells,_,hb=>by simp at hb
 |none::h,0,cells,_,hb=>by simp at hb
 |some cs::h,0,cells,hk,hb=>by
  rw[jA,Bool.and_eq_true] at hk
  simp only[List.getElem?_cons_zero,Option.some.injEq] at hb
  subst hb;exact hk.1
 |x::h,b+1,cells,hk,hb=>by
  rw[List.getElem?_cons_succ] at hb
  refine nf k h b cells ?_ hb
  cases x with
  |none=>exact hk
  |some cs=>rw[jA,Bool.and_eq_true] at hk;exact hk.2
theorem aX (k f:Nat)(xs:List C):af k (.fn f xs) =noRefs k xs:=rfl
end Go.Sx
namespace Go.Sx
open Go.RowKit
section
variable (P:Program)
def uq (op:BinOp)(b:Bool):Option Plan:=match op with
 | .eql=>some (vp (.val (.bool b)))
 | .neq=>some (vp (.val (.bool (!b))))
 |_=>none
theorem JG (b:Bool):uq .eql b=some (vp (.val (.bool b))):=rfl
theorem JH (b:Bool):uq .neq b=some (vp (.val (.bool (!b)))):=rfl
theorem wa {t:TypeId}{x y:List C}{b:Bool}(op:BinOp)(hg:P.eqGuardType P.depth t=false)(h:ik P 9 t (.agg x) (.agg y) =some b):aR P op t (.agg x) (.agg y) =uq op b:=by
 show il P op t (.agg x) (.agg y) =_
 unfold il
 rw[if_pos ⟨.inl ⟨rfl,rfl⟩,hg⟩]
 unfold uq
 cases op<;>simp[h,vp,Plan.pure]
theorem wQ {t:TypeId}{k:IntKind}{s y:Nat}{z:List Value}(d:Nat)(h:td P t=some ⟨.int k,s,y,z⟩)(a b:Int):ik P (d+1) t (.val (.int k a)) (.val (.int k b)) =some (decide (a=b)):=by
 unfold ik;rw[h];simp only[if_true];congr 1
end
@[congr] theorem TV {cx:Cx} {apps:List Nat} {dsts:List (Option Nat)} {l:List Oper} {id:Nat} {d:Option Nat} {e:List (Nat×C)} {h:Hp} {fs:List FP} {K:List FP→St→Prop} {ty:TypeId} {pos:String} {aft:Array Edge} {op:Op} {p p':Option Bool} (hp:p=p'):
   An cx apps dsts l id d e h fs K ty pos aft op p=An cx apps dsts l id d e h fs K ty pos aft op p':=by rw[hp]
def ur (c:C)(w:Bool):Option Bool:=match c with
 | .val (.bool b) =>some (b==w)
 | .val (.tuple _) =>some false
 |_=>none
def M5 (d:Option (Option Nat))(w:Bool)(e:List (Nat×C)):Option Bool:=match d.bind id with
 |none=>some false
 |some t=>ur (A e t).noR w
theorem EL (dsts:List (Option Nat))(j:Nat)(w:Bool)(e:List (Nat×C)):gB dsts (some (j,w)) (A e) =M5 (dsts[j]?) w e:=rfl
theorem A9 (t:Nat)(w:Bool)(e:List (Nat×C)):M5 (some (some t)) w e=ur (A e t).noR w:=rfl
theorem M6 (b:Bool):ur (.val (.bool b)) true=some b:=by cases b<;>rfl
theorem M7 (b:Bool):ur (.val (.bool b)) false=some (!b):=by cases b<;>rfl
theorem M8 (w:Bool):ur (.val undef) w=some false:=rfl
end Go.Sx
namespace Go.Sx
open Go.RowKit
section
variable {cx:Cx} {G:Gh} {w:World} {st:St} {a:Act}
structure Lit (cx:Cx) (ops ops':Array Oper) (k:Nat):Prop where
 dst:ops'.toList.map (·.dst) =ops.toList.map (·.dst)
 app:ops'.toList.filterMap dl=ops.toList.filterMap dl
 ew:∀i,ew ops' i=ew ops i
 same:∀i,i≠k+1→ops'[i]? =ops[i]?
 two:∃p q t n ps ty1 pos1 aft1 ty2 pos2 aft2 e s y z y2 z2,ops[k]? =some ⟨some p,.buildSlice t n ps,ty1,pos1,aft1,none⟩∧ops[k+1]? =some ⟨some q,.convert t t (.tmp p),ty2,pos2,aft2,none⟩∧
  ops'[k+1]? =some ⟨some q,.move (.tmp p),ty2,pos2,aft2,none⟩∧td cx.P t=some ⟨.slice e,s,y,z⟩∧td cx.P e=some ⟨.int .u8,1,y2,z2⟩∧cx.gr p=false
end
end Go.Sx
namespace Go.Sx
open Go.RowKit
class Inj {α:Type} (f:α→List C):Prop where
 inj:∀a b,f a=f b→a=b
instance:Inj bC:=⟨fun a b h=>by simpa[bC,bT] using h⟩
instance:Inj wC:=⟨fun a b h=>by simpa[wC,bq] using h⟩
instance:Inj sC:=⟨fun a b h=>by simpa[sC,bh] using h⟩
instance:Inj nC:=⟨fun a b h=>by simpa[nC,bP] using h⟩
instance:Inj iC:=⟨fun a b h=>by simpa[iC] using h⟩
instance:Inj oC:=⟨fun a b h=>by simpa[oC] using h⟩
theorem bR {α:Type}{f:α→List C}{s:Nat}[hf:Cel f s][hi:Inj f]:∀ {l l':List α},cl f l=cl f l'↔l=l':=by
 intro l l'
 constructor
 . induction l generalizing l' with
   |nil=>
    intro h
    cases l' with
    |nil=>rfl
    |cons a l'=>
     have:=congrArg List.length h
     rw[Az,cX,List.length_append,hf.len] at this
     have:=hf.pos
     simp at*
     omega
   |cons a l ih=>
    intro h
    cases l' with
    |nil=>
     have:=congrArg List.length h
     rw[Az,cX,List.length_append,hf.len] at this
     have:=hf.pos
     simp at*
     omega
    |cons b l'=>
     rw[cX,cX] at h
     obtain ⟨h1,h2⟩:=List.append_inj h (by rw[hf.len,hf.len])
     rw[hi.inj _ _ h1,ih h2]
 . rintro rfl;rfl
theorem bJ {α:Type}{f:α→List C}{s:Nat}[hf:Cel f s][hi:Inj f]{r:Rt}{l l':List α}:sl f r l=sl f r l'↔l=l':=by
 constructor
 . intro h
   simp only[sl,C.sl.injEq,true_and] at h
   exact bR.1 h.2
 . rintro rfl;rfl
end Go.Sx
namespace Go.Sx
open Go.RowKit
attribute [go_sem ↓] bF wy uc
attribute [go_sem] aH ED yq yr Ek AU yu yx El Jt Em En Eo AV Ju MP Eq aF aJ aK aW ax au aq ay aE Ej pq sy Bool.and_self Bool.and_true L5 Du Ad IF IG Ae Dv ya not_true_eq_false not_false_eq_true IH Dw L6 L7 L8 II IJ L9 IK DU yk AL IP IT IU IV DF Aw IW run_build yf DG run_store IX Me DH IY IZ Ax Mf I0 Mg DI I2 I3 I4 DJ IQ IR Ao Ap Aq Ar yb As rf rh yd Au Ak Dy Dz Ma Mb Mc IM DA DB Al Am DC DD DE IL Dr Ds I8 I9 Mh GJ IE Dt Bool.or_false Bool.false_or Bool.true_or Bool.or_true beq_self_eq_true so sq List.map_nil List.map_cons Option.map_none Option.map_some Option.bind_some Option.bind_none wI RG RH RI RJ RK RL RM RN RO RP RQ RR RS RT RU RV RW MN RX RY ne_eq EL A9 M6 M7 M8 JG JH eq_self decide_true decide_false Bool.not_true Bool.not_false GO MV s4 GP MW GQ MX GR GS GT GU GV MY MZ M1 M2 M3 JF M4 Ja R0 Mq Jb Jc Jd Ms Je Jf yh Jg Jh Ji Mt yi AF AG uh Jj DP DQ DR AH AI yj AJ AK fb ML AP JC EC yz v9 yA MS JB MT AW wJ un sz up A2 JD EE EF EI A3 A4 A5 uk Mu DS mj Mv DT Mw Mx Jw Et MD Jl DX Mz Jk MA MB Nat.mul_one Nat.zero_add Nat.add_zero DY DZ Ea Jv Es MG MH Jm Eb Jn Jo pm sZ jH List.append_nil DV DW ym Af Dx Ag yl ui Mr EA EB List.map_append mm kG AX EJ Ez R2 R3 JA A0 wL Nat.sub_zero Nat.zero_mul List.drop_zero List.drop_succ_cons List.take_succ_cons List.take_zero uf pn AB AC DO Ml R1 I7 List.set_cons_zero List.set_cons_succ List.getElem?_cons_zero List.getElem?_cons_succ List.length_nil List.length_cons List.nil_append List.cons_append Nat.add_sub_cancel_left List.length_set List.length_replicate MM
end Go.Sx
namespace Go.Sx
open Go.RowKit Go.ChangeShapes
theorem mq {H:Type}{enc:TypeId×Value→H}{P:Program}{W:World}{b:Nat}{sp:Nat→Bool}{hd:Bool}{t:TypeId}{ts:List TypeId}{vs:List Value}{ds:List (DataW H)}{ps:List MemPlace}
 (h:DataW.TrodAll enc P W b sp hd (t::ts) vs ds ps):∃v vs' d ds' p q,vs=v::vs'∧ds=d::ds'∧DataW.Trod enc P W b sp hd t v d p∧DataW.TrodAll enc P W b sp hd ts vs' ds' q:=by
 cases vs<;>cases ds<;>simp only[DataW.TrodAll] at h
 obtain ⟨p,q,h1,h2,_⟩:=h
 exact ⟨_,_,_,_,p,q,rfl,rfl,h1,h2⟩
theorem Ba {H:Type}{enc:TypeId×Value→H}{P:Program}{W:World}{b:Nat}{sp:Nat→Bool}{hd:Bool}{vs:List Value}{ds:List (DataW H)}{ps:List MemPlace}
 (h:DataW.TrodAll enc P W b sp hd [] vs ds ps):vs= []:=by
 cases vs<;>cases ds<;>simp only[DataW.TrodAll] at h<;>rfl
def AR (P:Program)(t:TypeId){α:Type}(g:α→C)(ok:α→Prop):Prop:=
 ∀ {H:Type}{enc:TypeId×Value→H}{W:World}{base b0:Nat}{sp:Nat→Bool}{held:Bool}{v:Value}{d:DataW H}{ps:List MemPlace},
   Value.okWide P W .any b0 t v→DataW.Trod enc P W base sp held t v d ps→∃a,ok a∧Rep (GW W) (g a) v
section
variable {P:Program} {t e:TypeId}
theorem M9 {s y:Nat}{z:List Value}(h:td P t=some ⟨.int .i64,s,y,z⟩):AR P t (fun n:Int=> .val (.int .i64 n)) fun n=> -9223372036854775808≤n∧n≤9223372036854775807:=
 fun h1 h2=>wP (f:=iC) (fun _=>rfl) (wN (aN h).1) (fun u hu=>by rw[(aN h).1] at hu;cases hu;trivial) h1 h2
theorem EM {α:Type}{f:α→List C}{ok:α→Prop}{s0 s y:Nat}[hf:Cel f s0]{z:List Value}(h:td P t=some ⟨.slice e,s,y,z⟩)(hc:P.cellsOf e=s0)(he:A6 P e f ok):AR P t (fun l:List α=>sl f .no l) fun l=>l.length≤9223372036854775807∧∀a∈l,ok a:=
 fun h1 h2=>wP (f:=fun l=>[sl f .no l]) (fun _=>rfl) (A8 (aN h).1 hc he) (fun u hu=>by rw[(aN h).1] at hu;cases hu;trivial) h1 h2
end
end Go.Sx
namespace Go.Sx
attribute [go_sem] AW wJ un sz Jx Jy Eu Ew Jz Ey aA wI Jp Ee Ef Jq Eg Eh AT Jr Ei Js yn bQ bl ba br bc bu bv f9 ub iT aX true_and and_true
end Go.Sx
namespace Go.Sx
open Go.RowKit
abbrev TW:= {l:List UInt8 // l.length=16}
instance:Inhabited TW:=⟨⟨List.replicate 16 0,by simp⟩⟩
def dC (d:TW):List C:=cl bC d.1
instance:Cel dC 16:=⟨fun a=>by unfold dC;rw[aA (f:=bC),a.2],fun a=>by unfold dC;exact fb a.1,by decide,fun a r=>by
 unfold dC
 obtain ⟨l,hl⟩:=a
 cases l with
 |nil=>simp at hl
 |cons b l=>rfl⟩
instance:Fla dC:=⟨fun a=>by unfold dC;exact pq bC a.1⟩
instance:Inj dC:=⟨fun a b h=>Subtype.ext (bR.1 h)⟩
def EN (a b:Option C):Option C:=match a,b with
 |some a,some b=>some (.tup [a.noR,b.noR])
 |_,_=>none
theorem Na (cx:Cx)(st:St)(r1 r2:ResultVar):j0 cx st [r1,r2] =EN (f8 cx st r1) (f8 cx st r2):=by
 unfold j0 EN
 simp only[List.mapM_cons,List.mapM_nil,Option.bind_eq_bind,Option.pure_def]
 cases f8 cx st r1<;>cases f8 cx st r2<;>rfl
theorem Bb (a b:C):EN (some a) (some b) =some (.tup [a.noR,b.noR]):=rfl
attribute [go_sem] Na Bb
attribute [go_sem] AO MJ
end Go.Sx
namespace Go.Sx
open Go.RowKit
theorem rq (n:Nat)(l:List Int)(i:Nat)(x:Int)(r:List (Nat×C))(h:i< l.length):eS n (cl iC l) ((i,.val (.int .i64 x))::r) =eS n (cl iC (l.set i x)) r:=by
 have e:=lF (f:=iC) l i x h
 rw[Nat.mul_one] at e
 have e2:splice (cl iC l) i [.val (.int .i64 x)] =cl iC (l.set i x):=e
 show (if [C.val (.int .i64 x)].length=1∧i+1≤(cl iC l).length then eS n (splice (cl iC l) i [.val (.int .i64 x)]) r else none) =_
 rw[if_pos ⟨rfl,by rw[aA (f:=iC)];omega⟩,e2]
theorem EO (l:List Nat):cl nC l=cl iC (l.map Int.ofNat):=by
 unfold cl
 rw[List.flatMap_map]
 rfl
theorem EP (n:Nat)(l:List Nat)(i:Nat)(x:Int)(r:List (Nat×C))(h:i< l.length):eS n (cl nC l) ((i,.val (.int .i64 x))::r) =eS n (cl iC ((l.map Int.ofNat).set i x)) r:=by
 rw[EO,rq n _ i x r (by simpa using h)]
theorem EQ (n:Nat)(l:List Int)(i:Nat)(x:Nat)(r:List (Nat×C))(h:i< l.length):eS n (cl iC l) ((i,.val (nI x))::r) =eS n (cl iC (l.set i x)) r:=rq n l i x r h
theorem WY {α:Type}(l:List α)(p:Nat):List.take (l.length - p) (List.drop p l) =List.drop p l:=by
 rw[←List.length_drop,List.take_length]
attribute [go_sem] rq EP EQ WY List.map_cons List.map_nil List.set_cons_zero
end Go.Sx
namespace Go.Sx
open Go.RowKit
def GX (cx:Cx)(rs:List ResultVar)(c:C)(h':Hp):Ex→St→Prop
 | .exit _,_=>False
 |_,st=>j0 cx st rs=some c∧st.h=h'
theorem JI (cx:Cx)(rs:List ResultVar)(c:C)(h':Hp)(st:St):GX cx rs c h' .ret st= (j0 cx st rs=some c∧st.h=h'):=rfl
theorem Bc {cx:Cx} {f:Nat} {fn:Func} {code:Code} {args:List C} {h h':Hp} {c:C} {rs:List ResultVar} (hN:cx.N=fn.ntmps) (hf:cx.P.funcs[f]? =some fn) (hn: (fn.name== "runtime.NumGoroutine") =false) (hb:fn.body=some code)
 (hrs:fn.results=rs.toArray) (hlen:args.length≤fn.ntmps) (hT:Tr cx h.length code ⟨A (cZ 0 args),h⟩ (GX cx rs c h')):FC cx.P cx.gl f args h c h':=by
 refine FC.of hN hf hn hb hlen ?_
 refine Tr.weaken (fun t=>CLe.init args t) (hT.mono fun x st q=>?_)
 have key:j0 cx st rs=some c∧st.h=h'→results cx fn st=some c∧((st.h.take h.length=h'∧af h.length c=true∧∀ (b:Nat) cells,b< h.length→st.h[b]? =some (some cells)→noRefs h.length cells=true)∨st.h=h'):=fun q=>by
  refine ⟨?_,.inr q.2⟩
  rw[←q.1]
  unfold results
  rw[hrs]
  rcases rs with _| ⟨r,_| ⟨r2,rs⟩⟩ <;>rfl
 cases x with
 |exit k=>exact q
 |normal=>exact key q
 |ret=>exact key q
theorem ER {α:Type}(f:α→List C)(r:Rt)(l:List α): (sl f r l).cells?=some [(sl f r l).noR]:=rfl
theorem yE:im [] =none:=rfl
attribute [go_sem] yE ER JI
end Go.Sx
namespace Go.Sx
open Go.RowKit
def lC {α:Type}(f:α→List C)(l:List α):List C:=[sl f .no l]
instance {α:Type} (f:α→List C):Sca (lC f) (sl f .no):=⟨fun _=>rfl,fun _=>rfl,fun _=>rfl,fun _ _=>rfl⟩
instance {α:Type} (f:α→List C) [h:Nrf f]:Nrf (lC f):=⟨fun k l=>by simp only[lC,noRefs,ax,Bool.and_self]⟩
attribute [go_sem] List.nil_append List.cons_append
end Go.Sx
namespace Go.Sx
open Go.RowKit
open Classical in
noncomputable def pr {α:Type}(enc:α→List C×Hp)(out:α→C×Hp)(xs:List C)(h:Hp):Option (C×Hp):=
 if q:∃a,enc a= (xs,h) then some (out q.choose) else none
theorem ES {α:Type}{enc:α→List C×Hp}{out:α→C×Hp}(hi:∀a b,enc a=enc b→out a=out b)(a:α):pr enc out (enc a).1 (enc a).2=some (out a):=by
 have h:∃b,enc b= ((enc a).1,(enc a).2):=⟨a,rfl⟩
 unfold pr
 rw[dif_pos h]
 exact congrArg some (hi _ _ h.choose_spec)
theorem Bd {α:Type}{enc:α→List C×Hp}{out:α→C×Hp}{xs:List C}{h:Hp}{r:C×Hp}(e:pr enc out xs h=some r):∃a,enc a= (xs,h)∧out a=r:=by
 unfold pr at e
 split at e
 . rename_i h2;exact ⟨_,h2.choose_spec,Option.some.inj e⟩
 . cases e
def extH (hp:Nat→List C→Hp→Option (C×Hp))(f:Nat)(t:List C→Hp→Option (C×Hp)):Nat→List C→Hp→Option (C×Hp):=fun g xs h=>if g=f then t xs h else hp g xs h
theorem uu {hp:Nat→List C→Hp→Option (C×Hp)}{f:Nat}{t:List C→Hp→Option (C×Hp)}(xs:List C)(h:Hp):extH hp f t f xs h=t xs h:=if_pos rfl
theorem sA {hp:Nat→List C→Hp→Option (C×Hp)}{f g:Nat}{t:List C→Hp→Option (C×Hp)}(n:g≠f)(xs:List C)(h:Hp):extH hp f t g xs h=hp g xs h:=if_neg n
theorem CxOK.extH {P:Program}{km:TypeId→Value→Bool}{gl:Nat→C}{pu:Nat→List C→Option C}{hp:Nat→List C→Hp→Option (C×Hp)}{N M:Nat}(hcx:CxOK ⟨P,N,gl,pu,hp,fun _=>false,km,true⟩)
 {α:Type} {enc:α→List C×Hp} {out:α→C×Hp} {f:Nat} (h:∀a,FC P gl f (enc a).1 (enc a).2 (out a).1 (out a).2):CxOK ⟨P,M,gl,pu,Sx.extH hp f (pr enc out),fun _=>false,km,true⟩:=by
 refine ⟨hcx.glo,hcx.pu,fun g xs k c k' hc=>?_,hcx.km⟩
 by_cases hgf:g=f
 . subst hgf
   have hc':pr enc out xs k=some (c,k'):=by rw[←hc];exact (uu xs k).symm
   obtain ⟨a,e1,e2⟩:=Bd hc'
   have:=h a
   rw[e1,e2] at this
   exact this
 . have hc':hp g xs k=some (c,k'):=by rw[←hc];exact (sA hgf xs k).symm
   exact hcx.hp g xs k c k' hc'
end Go.Sx
namespace Go.Sx
open Go.RowKit Go.ChangeShapes Go.WideShapes
structure BulkOK {H:Type} (B:DataW H→Nat) (BA:List (DataW H)→Nat):Prop where
 one:∀d,1≤B d
 str:∀s,B (.lit (.string s)) =s.length+1
 slice:∀e s,B (.slice e s) =BA e+BA s+1
 agg:∀e,B (.agg e) =BA e+1
 nil:BA [] =0
 cons:∀d r,BA (d::r) =B d+BA r
end Go.Sx
namespace Go.Sx
open Go.RowKit Go.ChangeShapes Go.WideShapes
end Go.Sx
namespace Go.Sx
open Go.RowKit
end Go.Sx
namespace Go.Sx
open Go.RowKit
def Cx.grow (cx:Cx)(l:List Nat):Cx:= { cx with gr:=fun t=>l.contains t }
section
variable {cx:Cx} {n:Nat} {st:St} {Q:Ex→St→Prop} {G:Gh} {w:World} {h:Hp}
theorem CxOK.grow (hcx:CxOK cx)(l:List Nat):CxOK (cx.grow l):=⟨hcx.glo,hcx.pu,hcx.hp,hcx.km⟩
theorem Sim.grow {a:Act}(H:Sim cx G w st a)(l:List Nat):Sim (cx.grow l) G w st a:=⟨H.defers,H.size,H.pre.ok,H.pre.env,H.pre.glob⟩
theorem Sim.ungrow {a:Act}{l:List Nat}(H:Sim (cx.grow l) G w st a):Sim cx G w st a:=⟨H.defers,H.size,H.pre.ok,H.pre.env,H.pre.glob⟩
theorem GY (l:List Nat){c:Code}(H:Tr (cx.grow l) n c st Q):Tr cx n c st Q:=fun r hr G w a S R hR=>
 H r hr G w a (S.grow l) R fun x s G' w' a' q S' F=>hR x s G' w' a' q S'.ungrow F
theorem lH (hcx:CxOK cx)(gs:List Nat){e:List (Nat×C)}{id:Nat}{l:List Oper}(apps:List Nat)(dsts:List (Option Nat))(z:Hp)(h1:l.filterMap dl=apps)(h2:l.map (·.dst) =dsts)(h3:e6 l=z)
 (H:run (cx.grow gs) apps dsts l h.length e (h++z) [] (fun _ s=>Q .normal s)):Tr cx n (.region id l.toArray false) ⟨A e,h⟩ Q:=
 GY gs (Tr.rg (hcx.grow gs) apps dsts z h1 h2 h3 H)
theorem wR (hcx:CxOK cx)(hm:cx.P.follows .mixedOrders=true)(gs:List Nat){e:List (Nat×C)}{id:Nat}{l:List Oper}(apps:List Nat)(dsts:List (Option Nat))(z:Hp)(h1:l.filterMap dl=apps)(h2:l.map (·.dst) =dsts)(h3:e6 l=z)
 (hs:eO l.toArray=true)
 (H:run (cx.grow gs) apps dsts l h.length e (h++z) [] (fun fs s=>fY l.toArray fs.reverse=true∧Q .normal s)):Tr cx n (.region id l.toArray true) ⟨A e,h⟩ Q:=
 GY gs (ud (hcx.grow gs) hm apps dsts z h1 h2 h3 hs H)
theorem Tr.virt {c:Code}(H:Tr cx n c ⟨st.env,st.h++[some []]⟩ Q):Tr cx n c st Q:=fun r hr G w a S R hR=>
 H r hr G w a ⟨S.defers,S.size,S.pre.ok.virt,S.pre.env,S.pre.glob⟩ R hR
theorem mr (b:Nat)(s:Nat×Nat):CLe (.val (.slice none 0 0)) (.gv b 0 s):=
 ⟨fun G v h=>by rw[an] at h;simp only[Rep];exact ⟨none,0,h,Nat.le_refl _,Nat.zero_le _,.inl ⟨trivial,rfl⟩⟩,fun s n xs e=>by cases e⟩
def eB:List Nat→Nat→Nat→Option Nat
 | [],_,_=>none
 |x::r,k,b=>if b=x then some k else eB r (k+1) b
theorem fO:∀ {ρ:List Nat}{k b j:Nat},eB ρ k b=some j→k≤j∧ρ[j - k]? =some b
 | [],k,b,j,h=>by cases h
 |x::r,k,b,j,h=>by
  simp only[eB] at h
  split at h
  . rename_i e;cases h;subst e;simp
  . obtain ⟨h1,h2⟩:=fO h
    refine ⟨by omega,?_⟩
    have:j - k= (j - (k+1))+1:=by omega
    rw[this,List.getElem?_cons_succ];exact h2
mutual
def bj (ρ:List Nat):C→C
 | .sv b o n=>match eB ρ 0 b with|some j=> .sv j o n|none=> .top
 | .gv b n s=>match eB ρ 0 b with|some j=> .gv j n s|none=> .top
 | .bp b o=>match eB ρ 0 b with|some j=> .bp j o|none=> .top
 | .mp b=>match eB ρ 0 b with|some j=> .mp j|none=> .top
 | .bt b t n=>match eB ρ 0 b with|some j=> .bt j t n|none=> .top
 | .sl r n xs=> .sl r n (mvCs ρ xs)
 | .kp xs=> .kp (mvCs ρ xs)
 | .agg xs=> .agg (mvCs ρ xs)
 | .tup xs=> .tup (mvCs ρ xs)
 | .fn f xs=> .fn f (mvCs ρ xs)
 | .top=> .top
 | .val v=> .val v
def mvCs (ρ:List Nat):List C→List C
 | [] =>[]
 |x::xs=>bj ρ x::mvCs ρ xs
end
theorem ms (ρ:List Nat):∀xs:List C,mvCs ρ xs=xs.map (bj ρ)
 | [] =>rfl
 |x::xs=>by simp[mvCs,ms ρ xs]
def iU (ρ:List Nat)(h:Hp):Hp:=ρ.map fun b=>((h[b]?).getD none).map (mvCs ρ)
def dX (ρ:List Nat)(G:Gh):Gh where
 K:=G.K
 μ:=fun j=>(ρ[j]?).bind G.μ
 T:=fun g=>match G.T g with
  |some p=>if p.1=1 then (eB ρ 0 p.2.1).map (fun j=>(1,j,p.2.2)) else some p
  |none=>none
 σ:=fun j=>(ρ[j]?).bind G.σ
mutual
theorem lI {ρ:List Nat}:∀ (c:C)(v:Value),Rep G c v→Rep (dX ρ G) (bj ρ c) v
 | .top,_,_=>by simp[bj,Rep]
 | .val u,v,r=>by simpa[bj,Rep] using r
 | .sl r n xs,v,x=>by
   simp only[bj,Rep] at x ⊢
   obtain ⟨a,cap,h1,h2,h3,h4,h5⟩:=x
   refine ⟨a,cap,h1,h2,h3,h4,?_⟩
   rcases h5 with h5| ⟨blk,off,ha,hk⟩
   . left;rw[h5];rfl
   . exact .inr ⟨blk,off,ha,mvC_repK xs blk off hk⟩
 | .sv b off n,v,x=>by
   simp only[bj]
   cases hl:eB ρ 0 b with
   |none=>simp[Rep]
   |some j=>
    have hj:=(fO hl).2
    simp only[Rep] at x ⊢
    obtain ⟨a,cap,h1,h2,h3,h4⟩:=x
    exact ⟨a,cap,h1,h2,h3,fun hz=>by obtain ⟨blk,q1,q2⟩:=h4 hz;exact ⟨blk,by simp only[dX,Nat.sub_zero] at hj ⊢;rw[hj];exact q1,q2⟩⟩
 | .gv b m s,v,x=>by
   simp only[bj]
   cases hl:eB ρ 0 b with
   |none=>simp[Rep]
   |some j=>
    have hj:=(fO hl).2
    simp only[Nat.sub_zero] at hj
    simp only[Rep] at x ⊢
    obtain ⟨a,cap,h1,h2,h3,h4⟩:=x
    refine ⟨a,cap,h1,h2,h3,?_⟩
    rcases h4 with h4| ⟨blk,q1,q2,q3⟩
    . exact .inl h4
    . exact .inr ⟨blk,by simp only[dX];rw[hj];exact q1,q2,by simp only[dX];rw[hj];exact q3⟩
 | .bp b off,v,x=>by
   simp only[bj]
   cases hl:eB ρ 0 b with
   |none=>simp[Rep]
   |some j=>
    have hj:=(fO hl).2
    simp only[Nat.sub_zero] at hj
    simp only[Rep] at x ⊢
    obtain ⟨blk,h1,h2⟩:=x
    exact ⟨blk,by simp only[dX];rw[hj];exact h1,h2⟩
 | .mp b,v,x=>by
   simp only[bj]
   cases hl:eB ρ 0 b with
   |none=>simp[Rep]
   |some j=>
    have hj:=(fO hl).2
    simp only[Nat.sub_zero] at hj
    simp only[Rep] at x ⊢
    obtain ⟨blk,h1,h2⟩:=x
    exact ⟨blk,by simp only[dX];rw[hj];exact h1,h2⟩
 | .bt b t n,v,x=>by
   simp only[bj]
   cases hl:eB ρ 0 b with
   |none=>simp[Rep]
   |some j=>
    have hj:=(fO hl).2
    simp only[Nat.sub_zero] at hj
    simp only[Rep] at x ⊢
    obtain ⟨blk,h1,h2,h3⟩:=x
    exact ⟨blk,by simp only[dX];rw[hj];exact h1,h2,by simp only[dX];rw[hj];exact h3⟩
 | .kp xs,v,x=>by
   simp only[bj,Rep] at x ⊢
   obtain ⟨blk,off,h1,h2⟩:=x
   exact ⟨blk,off,h1,mvC_repK xs blk off h2⟩
 | .agg xs,v,x=>by
   simp only[bj,Rep] at x ⊢
   obtain ⟨vs,h1,h2,h3⟩:=x
   exact ⟨vs,h1,mvC_repL xs _ h2,h3⟩
 | .tup xs,v,x=>by
   simp only[bj,Rep] at x ⊢
   obtain ⟨vs,h1,h2⟩:=x
   exact ⟨vs,h1,mvC_repL xs _ h2⟩
 | .fn f xs,v,x=>by
   simp only[bj,Rep] at x ⊢
   obtain ⟨vs,h1,h2⟩:=x
   exact ⟨vs,h1,mvC_repL xs _ h2⟩
theorem mvC_repL {ρ:List Nat}:∀ (xs:List C)(vs:List Value),RepL G xs vs→RepL (dX ρ G) (mvCs ρ xs) vs
 | [],vs,r=>by simpa[mvCs,RepL] using r
 |x::xs,vs,r=>by
  simp only[mvCs,RepL] at r ⊢
  obtain ⟨v,vs',h1,h2,h3⟩:=r
  exact ⟨v,vs',h1,lI x v h2,mvC_repL xs vs' h3⟩
theorem mvC_repK {ρ:List Nat}:∀ (xs:List C)(blk off:Nat),RepK G blk off xs→RepK (dX ρ G) blk off (mvCs ρ xs)
 | [],_,_,_=>by simp[mvCs,RepK]
 |x::xs,blk,off,r=>by
  simp only[mvCs,RepK] at r ⊢
  obtain ⟨⟨u,h1,h2,h3⟩,h4⟩:=r
  exact ⟨⟨u,h1,h2,lI x u h3⟩,mvC_repK xs blk (off+1) h4⟩
end
theorem wS {ρ:List Nat}{c:C}{s m:Nat}{xs:List C}(h:bj ρ c= .sl (.own s) m xs):∃ys,c= .sl (.own s) m ys:=by
 cases c with
 |sl r k ys=>simp only[bj] at h;cases h;exact ⟨ys,rfl⟩
 |sv b o k=>simp only[bj] at h;split at h<;>cases h
 |gv b o k=>simp only[bj] at h;split at h<;>cases h
 |bp b o=>simp only[bj] at h;split at h<;>cases h
 |mp b=>simp only[bj] at h;split at h<;>cases h
 |bt b t n=>simp only[bj] at h;split at h<;>cases h
 |_=>simp only[bj] at h;cases h
theorem qm {ρ:List Nat}{j:Nat}{cells:List C}(hj:Hp.at (iU ρ h) j=some cells):∃b cells0,ρ[j]? =some b∧h.at b=some cells0∧cells=mvCs ρ cells0:=by
 have h1:=fH hj
 unfold iU at h1
 rw[List.getElem?_map] at h1
 cases hb:ρ[j]? with
 |none=>rw[hb] at h1;cases h1
 |some b=>
  rw[hb] at h1
  simp only[Option.map_some,Option.some.injEq] at h1
  cases hq:h[b]? with
  |none=>rw[hq] at h1;cases h1
  |some o=>
   rw[hq] at h1
   cases o with
   |none=>cases h1
   |some cells0=>
    simp only[Option.getD_some,Option.map_some,Option.some.injEq] at h1
    refine ⟨b,cells0,rfl,?_,h1.symm⟩
    have hl:=gi hj
    unfold Hp.at
    rw[hq]
    subst h1
    show aP (some cells0) =_
    cases cells0 with
    |nil=>rfl
    |cons x l=>
     cases x with
     |tup xs=>simp only[mvCs,bj] at hl;cases hl
     |_=>rfl
theorem uv {ρ:List Nat}:∀ (l:List C)(es:List MapEntry),MRep G l es→MRep (dX ρ G) (mvCs ρ l) es
 | [],_,r=>by simpa[MRep,mvCs] using r
 | [_],_,r=>by simp[MRep] at r
 |k::v::l,es,r=>by
  simp only[MRep,mvCs] at r ⊢
  obtain ⟨e,es',h1,h2,h3,h4⟩:=r
  exact ⟨e,es',h1,lI k _ h2,lI v _ h3,uv l es' h4⟩
theorem Be {ρ:List Nat}{c:C}{u:Value}(h:bj ρ c= .val u):c= .val u:=by
 cases c with
 |val v=>simp only[bj] at h;exact h
 |sv b o k=>simp only[bj] at h;split at h<;>cases h
 |gv b o k=>simp only[bj] at h;split at h<;>cases h
 |bp b o=>simp only[bj] at h;split at h<;>cases h
 |mp b=>simp only[bj] at h;split at h<;>cases h
 |bt b t n=>simp only[bj] at h;split at h<;>cases h
 |_=>simp only[bj] at h;cases h
theorem Bf {ρ:List Nat}{c:C}{xs:List C}(h:bj ρ c= .tup xs):∃ys,c= .tup ys∧xs=mvCs ρ ys:=by
 cases c with
 |tup ys=>simp only[bj] at h;cases h;exact ⟨ys,rfl,rfl⟩
 |sv b o k=>simp only[bj] at h;split at h<;>cases h
 |gv b o k=>simp only[bj] at h;split at h<;>cases h
 |bp b o=>simp only[bj] at h;split at h<;>cases h
 |mp b=>simp only[bj] at h;split at h<;>cases h
 |bt b t n=>simp only[bj] at h;split at h<;>cases h
 |_=>simp only[bj] at h;cases h
theorem rr {F:C→C}{Fs:List C→List C}(hs:∀xs,Fs xs=xs.map F)(hv:∀c u,F c= .val u→c= .val u)(ht:∀c xs,F c= .tup xs→∃ys,c= .tup ys∧xs=Fs ys){cells l:List C}(h:fj (some (Fs cells)) =some l):∃l0,fj (some cells) =some l0∧l=Fs l0:=by
 cases cells with
 |nil=>rw[hs] at h;cases h
 |cons c cs=>
  rw[hs,List.map_cons] at h
  cases hq:F c with
  |tup xs=>
   obtain ⟨ys,rfl,rfl⟩:=ht c xs hq
   rw[hq] at h
   cases ys with
   |nil=>rw[hs] at h;cases h
   |cons y ys=>
    rw[hs,List.map_cons] at h
    cases hy:F y with
    |val u=>
     have:=hv y u hy
     subst this
     rw[hy] at h
     cases u with
     |bool b=>
      cases b with
      |true=>cases h;exact ⟨ys,rfl,(hs ys).symm⟩
      |false=>cases h
     |_=>cases h
    |_=>rw[hy] at h;cases h
  |_=>rw[hq] at h;cases h
theorem uw {ρ:List Nat}{h:Hp}{j:Nat}{l:List C}(hj:Hp.mp (iU ρ h) j=some l):∃b l0,ρ[j]? =some b∧h.mp b=some l0∧l=mvCs ρ l0:=by
 unfold Hp.mp iU at hj
 rw[List.getElem?_map] at hj
 cases hb:ρ[j]? with
 |none=>rw[hb] at hj;cases hj
 |some b=>
  rw[hb] at hj
  simp only[Option.map_some,Option.bind_some] at hj
  cases hq:h[b]? with
  |none=>rw[hq] at hj;cases hj
  |some o=>
   rw[hq] at hj
   cases o with
   |none=>cases hj
   |some cells0=>
    obtain ⟨l0,h1,h2⟩:=rr (Fs:=mvCs ρ) (ms ρ) (fun _ _=>Be) (fun _ _=>Bf) (cells:=cells0) hj
    exact ⟨b,l0,rfl,by unfold Hp.mp;rw[hq];exact h1,h2⟩
def rt (n:Nat)(ρ:List Nat):Prop:=ρ.Nodup∧n≤ρ.length∧∀j,j< n→ρ[j]? =some j
theorem jL:∀ {ρ:List Nat}{k j b:Nat},ρ.Nodup→ρ[j]? =some b→eB ρ k b=some (k+j)
 |x::r,k,0,b,hn,h=>by simp at h;subst h;simp[eB]
 |x::r,k,j+1,b,hn,h=>by
  rw[List.getElem?_cons_succ] at h
  have hx:b≠x:=fun e=>by
   subst e
   exact (List.nodup_cons.1 hn).1 (List.mem_of_getElem? h)
  simp only[eB]
  rw[if_neg hx,jL (List.nodup_cons.1 hn).2 h]
  congr 1;omega
 | [],k,j,b,hn,h=>by simp at h
theorem OwnRow.mv {ρ:List Nat}{p p':bG}{v:Value}{s m:Nat}(O:OwnRow G w p v s m)(hp: (p.1≠1∧p'=p)∨(p.1=1∧∃j,eB ρ 0 p.2.1=some j∧p'= (1,j,p.2.2))):OwnRow (dX ρ G) w p' v s m:=by
 rcases O with O| ⟨g,cap,cur,e,a1,a2,a3,a4,a5,a6⟩
 . exact .inl O
 . refine .inr ⟨g,cap,cur,e,a1,?_,a3,a4,a5,fun b hb=>?_⟩
   . simp only[dX,a2]
     rcases hp with ⟨h1,rfl⟩ | ⟨h1,j,h2,rfl⟩
     . rw[if_neg h1]
     . rw[if_pos h1,h2];rfl
   . simp only[dX] at hb
     cases hq:ρ[b]? with
     |none=>rw[hq] at hb;cases hb
     |some q=>rw[hq] at hb;exact a6 q hb
theorem WorldOK.mv {ρ:List Nat}(H:WorldOK G h w)(hρ:ρ.Nodup):WorldOK (dX ρ G) (iU ρ h) w:=by
 have hμ:∀ {j blk},(dX ρ G).μ j=some blk→∃b,ρ[j]? =some b∧G.μ b=some blk:=fun {j blk} x=>by
  simp only[dX] at x
  cases hq:ρ[j]? with
  |none=>rw[hq] at x;cases x
  |some q=>rw[hq] at x;exact ⟨q,rfl,x⟩
 refine ⟨H.known,fun j cells hj=>?_,fun j blk hm=>?_,fun j j' c c' blk hj hj' hm hm'=>?_,fun j blk hm=>?_,fun g p hg=>?_,fun j cells off s m xs blk v hj hc hm hv=>?_,fun j z hz=>?_,fun j l hj=>?_,fun j j' l l' blk x x' y y'=>?_⟩
 . obtain ⟨b,cells0,h1,h2,rfl⟩:=qm hj
   rcases H.box b cells0 h2 with ⟨hE,hE2⟩ | ⟨blk,cs,e,q1,q2,q3,q4,q5⟩
   . exact .inl ⟨by rw[hE];rfl,by simp only[dX,h1];exact hE2⟩
   . have hl: (mvCs ρ cells0).length=cells0.length:=by rw[ms];simp
     exact .inr ⟨blk,cs,e,by simp only[dX,h1];exact q1,q2,by rw[hl];exact q3,by rw[hl];exact mvC_repL _ _ q4,q5⟩
 . obtain ⟨b,h1,h2⟩:=hμ hm
   obtain ⟨⟨c,hc⟩,hl⟩:=H.dom b blk h2
   refine ⟨⟨mvCs ρ c,?_⟩,hl⟩
   unfold iU
   rw[List.getElem?_map,h1]
   simp[hc]
 . obtain ⟨b,h1,h2⟩:=hμ hm
   obtain ⟨b',h1',h2'⟩:=hμ hm'
   obtain ⟨q,cells0,g1,g2,_⟩:=qm hj
   obtain ⟨q',cells0',g1',g2',_⟩:=qm hj'
   rw[h1] at g1;cases g1
   rw[h1'] at g1';cases g1'
   have e:=H.inj b b' _ _ blk g2 g2' h2 h2'
   subst e
   have l1:=jL (k:=0) hρ h1
   have l2:=jL (k:=0) hρ h1'
   rw[l1] at l2
   simpa using l2
 . obtain ⟨b,h1,h2⟩:=hμ hm
   obtain ⟨s1,s2⟩:=H.sep b blk h2
   exact ⟨s1,by simp only[dX,s2]⟩
 . cases hq:G.T g with
   |none=>simp only[dX,hq] at hg;cases hg
   |some q=>exact H.tlt g q hq
 . obtain ⟨b,cells0,h1,h2,rfl⟩:=qm hj
   obtain ⟨b',h1',h2'⟩:=hμ hm
   rw[h1] at h1';cases h1'
   rw[ms,List.getElem?_map] at hc
   cases hq:cells0[off]? with
   |none=>rw[hq] at hc;cases hc
   |some y=>
    rw[hq] at hc
    simp only[Option.map_some,Option.some.injEq] at hc
    obtain ⟨ys,rfl⟩:=wS hc
    have O:=H.own b cells0 off s m ys blk v h2 hq h2' hv
    have l1:=jL (k:=0) hρ h1
    exact O.mv (.inr ⟨rfl,j,by simpa using l1,rfl⟩)
 . simp only[dX] at hz
   cases hq:ρ[j]? with
   |none=>rw[hq] at hz;cases hz
   |some b=>
    rw[hq] at hz
    obtain ⟨blk,cs,e,fr,q1,q2,q3⟩:=H.siz b z hz
    exact ⟨blk,cs,e,fr,by simp only[dX,hq];exact q1,q2,q3⟩
 . obtain ⟨b,l0,h1,h2,rfl⟩:=uw hj
   obtain ⟨blk,es,clk,q1,q2,q3⟩:=H.mpo b l0 h2
   exact ⟨blk,es,clk,by simp only[dX,h1];exact q1,q2,uv l0 _ q3⟩
 . obtain ⟨b,l0,h1,h2,rfl⟩:=uw x
   obtain ⟨b',l0',h1',h2',rfl⟩:=uw x'
   obtain ⟨q,g1,g2⟩:=hμ y
   obtain ⟨q',g1',g2'⟩:=hμ y'
   rw[h1] at g1;cases g1
   rw[h1'] at g1';cases g1'
   have e:=H.mpi b b' _ _ blk h2 h2' g2 g2'
   subst e
   have l1:=jL (k:=0) hρ h1
   have l2:=jL (k:=0) hρ h1'
   rw[l1] at l2
   simpa using l2
theorem JJ {ρ:List Nat}(hρ:rt n ρ):FrmN n G w (dX ρ G) w:=
 ⟨rfl,rfl,rfl,Nat.le_refl _,fun _ _ _ x=>x,fun b k hb x=>by simp only[dX];rw[hρ.2.2 b hb];exact x,fun b k hb x=>by simp only[dX];rw[hρ.2.2 b hb];exact x,
   fun g _ ht hm=>⟨rfl,by simp only[dX,ht],fun j hj=>by
    simp only[dX] at hj
    cases hq:ρ[j]? with
    |none=>rw[hq] at hj;cases hj
    |some q=>rw[hq] at hj;exact hm q hj,fun _=>rfl⟩⟩
theorem sB {ρ:List Nat}{c:C}{v:Value}(hc:af 0 c=true)(h:Rep G c v):Rep (dX ρ G) c v:=by
 have h1:=ez c v hc h
 have le: (bN G 0).Le (dX ρ G):=⟨fun _ _ _ x=>x,fun b k x=>by simp[bN] at x,fun b k x=>by simp[bN] at x⟩
 exact h1.mono le
theorem Sim.mv (hcx:CxOK cx){a:Act}{ρ:List Nat}(hρ:ρ.Nodup)(H:Sim cx G w st a):Sim cx (dX ρ G) w ⟨fun t=>bj ρ (st.env t),iU ρ st.h⟩ a:=
 ⟨H.defers.same (fun g h=>by simp only[dX,h]) (fun g h b hb=>by
   simp only[dX] at hb
   cases hq:ρ[b]? with
   |none=>rw[hq] at hb;cases hb
   |some j=>rw[hq] at hb;exact h j hb),H.size,H.pre.ok.mv hρ,⟨fun t=>lI _ _ (H.pre.env.1 t),fun t s m xs e=>by
   obtain ⟨ys,hy⟩:=wS e
   exact (H.pre.env.2 t s m ys hy).mv (.inl ⟨by simp,rfl⟩)⟩,fun g=>sB (hcx.glo g) (H.pre.glob g)⟩
theorem Tr.mv (hcx:CxOK cx){c:Code}(ρ:List Nat)(hρ:rt n ρ)(H:Tr cx n c ⟨fun t=>bj ρ (st.env t),iU ρ st.h⟩ Q):Tr cx n c st Q:=fun r hr G w a S R hR=>
 H r hr (dX ρ G) w a (S.mv hcx hρ.1) R fun x s G' w' a' q S' F=>hR x s G' w' a' q S' ((JJ hρ).transA F)
def Xa (n:Nat)(P:St→Prop)(s:St):Prop:= ∃ρ:List Nat,rt n ρ∧P ⟨fun t=>bj ρ (s.env t),iU ρ s.h⟩
theorem ux {α:Type}(hcx:CxOK cx)(I:α→List (Nat×C))(H:α→Hp)(ok:α→Prop)(μ:α→Nat){c:Code}(a:α)(h0:ok a)(hl:Le st.env (I a))(hh:st.h=H a)
 (hb:∀a,ok a→Tr cx n c ⟨A (I a),H a⟩ (kR (Xa n (At I H fun a'=>ok a'∧μ a'< μ a)) Q)):Tr cx n (.loop c) st Q:=by
 refine Tr.loop (fun m s=> ∃ρ,rt n ρ∧∃a,μ a=m∧ok a∧Le (fun t=>bj ρ (s.env t)) (I a)∧iU ρ s.h=H a∨(μ a=m∧ok a∧Le s.env (I a)∧s.h=H a)) (μ a) ⟨List.range n,⟨List.nodup_range,by simp,fun j hj=>by simp[hj]⟩,a,.inr ⟨rfl,h0,hl,hh⟩⟩ ?_
 rintro m s ⟨ρ,hρ,a,⟨rfl,h1,h2,h3⟩ | ⟨rfl,h1,h2,h3⟩⟩
 . refine Tr.mv hcx ρ hρ (Tr.live _ h2 ?_)
   rw[h3]
   refine (hb a h1).mono fun e s q=>?_
   cases e with
   |normal=>
    obtain ⟨ρ',hρ',a',⟨q1,q2⟩,q3,q4⟩:=q
    exact ⟨μ a',q2,ρ',hρ',a',.inl ⟨rfl,q1,q3,q4⟩⟩
   |exit id=>exact q
   |ret=>exact q
 . refine Tr.live _ h2 ?_
   rw[h3]
   refine (hb a h1).mono fun e s q=>?_
   cases e with
   |normal=>
    obtain ⟨ρ',hρ',a',⟨q1,q2⟩,q3,q4⟩:=q
    exact ⟨μ a',q2,ρ',hρ',a',.inl ⟨rfl,q1,q3,q4⟩⟩
   |exit id=>exact q
   |ret=>exact q
end
end Go.Sx
namespace Go.Sx
open Go.RowKit
def ec (h:Hp)(b b':Nat):Bool:=((h.at b').isSome|| (h.mp b').isSome) && b' !=b
mutual
def dY (ok:Nat→Bool):C→C
 | .sv b o n=>if ok b=true then .sv b o n else .top
 | .gv b n s=>if ok b=true then .gv b n s else .top
 | .bp b o=>if ok b=true then .bp b o else .top
 | .mp b=>if ok b=true then .mp b else .top
 | .bt b t n=>if ok b=true then .bt b t n else .top
 | .sl r n xs=> .sl r n (scrs ok xs)
 | .kp xs=> .kp (scrs ok xs)
 | .agg xs=> .agg (scrs ok xs)
 | .tup xs=> .tup (scrs ok xs)
 | .fn f xs=> .fn f (scrs ok xs)
 | .top=> .top
 | .val v=> .val v
def scrs (ok:Nat→Bool):List C→List C
 | [] =>[]
 |x::xs=>dY ok x::scrs ok xs
end
mutual
def bg (ok:Nat→Bool)(b:Nat)(ys:List C):C→C
 | .sv b' o n=>if b'=b then (if o+n≤ys.length then .sl .no n ((ys.drop o).take n) else .top) else if ok b'=true then .sv b' o n else .top
 | .gv b' n s=>if b'=b then (if n*s.1≤ys.length then .sl .no n (ys.take (n*s.1)) else .top) else if ok b'=true then .gv b' n s else .top
 | .bp b' o=>if b'=b then .kp (ys.drop o) else if ok b'=true then .bp b' o else .top
 | .mp b'=>if b'=b then .top else if ok b'=true then .mp b' else .top
 | .bt b' t n=>if b'=b then .top else if ok b'=true then .bt b' t n else .top
 | .sl r n xs=> .sl r n (fzCs ok b ys xs)
 | .kp xs=> .kp (fzCs ok b ys xs)
 | .agg xs=> .agg (fzCs ok b ys xs)
 | .tup xs=> .tup (fzCs ok b ys xs)
 | .fn f xs=> .fn f (fzCs ok b ys xs)
 | .top=> .top
 | .val v=> .val v
def fzCs (ok:Nat→Bool)(b:Nat)(ys:List C):List C→List C
 | [] =>[]
 |x::xs=>bg ok b ys x::fzCs ok b ys xs
end
theorem pt (ok:Nat→Bool):∀xs:List C,scrs ok xs=xs.map (dY ok)
 | [] =>rfl
 |x::xs=>by simp[scrs,pt ok xs]
theorem jj (ok:Nat→Bool)(b:Nat)(ys:List C):∀xs:List C,fzCs ok b ys xs=xs.map (bg ok b ys)
 | [] =>rfl
 |x::xs=>by simp[fzCs,jj ok b ys xs]
def kU (ok:Nat→Bool)(b:Nat)(ys:List C)(h:Hp):Hp:=(h.map fun o=>o.map (fzCs ok b ys)).set b (some dT)
open Classical in
noncomputable def dK (G:Gh)(w:World)(b k:Nat):Gh where
 K:=fun g o=>if G.μ b=some g∧o< k then w.cell? ⟨g,o,none⟩ else G.K g o
 μ:=fun b'=>if b'=b∨(∃g,G.μ b=some g∧G.μ b'=some g) then none else G.μ b'
 T:=G.T
 σ:=fun b'=>if b'=b∨(∃g,G.μ b=some g∧G.μ b'=some g) then none else G.σ b'
section
variable {cx:Cx} {n:Nat} {st:St} {Q:Ex→St→Prop} {G:Gh} {w:World} {h:Hp} {b:Nat} {cells:List C}
theorem wT (H:WorldOK G h w)(hb:h.at b=some cells){b':Nat}(hok:ec h b b'=true):¬ (b'=b∨(∃g,G.μ b=some g∧G.μ b'=some g)):=by
 simp only[ec,Bool.and_eq_true,Bool.or_eq_true,bne_iff_ne,ne_eq] at hok
 obtain ⟨h1,h2⟩:=hok
 rintro (e| ⟨g,e1,e2⟩)
 . exact h2 e
 . rcases h1 with h1|h1
   . obtain ⟨c',hc'⟩:=Option.isSome_iff_exists.1 h1
     exact h2 (H.inj b' b _ _ g hc' hb e2 e1)
   . obtain ⟨l',hl'⟩:=Option.isSome_iff_exists.1 h1
     obtain ⟨blk,es,clk,q1,q2,_⟩:=H.mpo b' l' hl'
     rw[e2] at q1;cases q1
     obtain ⟨cs,e,⟨fr,r2,_⟩,_⟩:=H.bx hb e1
     rw[q2] at r2;cases r2
theorem nM (H:WorldOK G h w)(k:Nat): (bN G 0).Le (dK G w b k):=
 ⟨fun g o u x=>(by
   have x':G.K g o=some u:=x
   simp only[dK]
   rw[if_neg]
   . exact x'
   . rintro ⟨e,_⟩
     rw[(H.sep b g e).1 o] at x';cases x'),fun b k x=>by simp[bN] at x,fun b k x=>by simp[bN] at x⟩
theorem e9 (H:WorldOK G h w)(hb:h.at b=some cells){b' k g:Nat}(hok:ec h b b'=true)(hm:G.μ b'=some g): (dK G w b k).μ b'=some g:=by
 simp only[dK];rw[if_neg (wT H hb hok)];exact hm
theorem mz (H:WorldOK G h w)(hb:h.at b=some cells){b' k:Nat}{g:Nat×Nat}(hok:ec h b b'=true)(hm:G.σ b'=some g): (dK G w b k).σ b'=some g:=by
 simp only[dK];rw[if_neg (wT H hb hok)];exact hm
mutual
theorem ru (H:WorldOK G h w)(hb:h.at b=some cells)(k:Nat):∀ (c:C)(v:Value),Rep G c v→Rep (dK G w b k) (dY (ec h b) c) v
 | .top,_,_=>by simp[dY,Rep]
 | .val u,v,r=>by simpa[dY,Rep] using r
 | .sl r n xs,v,x=>by
   simp only[dY,Rep] at x ⊢
   obtain ⟨a,cap,h1,h2,h3,h4,h5⟩:=x
   refine ⟨a,cap,h1,h2,h3,h4,?_⟩
   rcases h5 with h5| ⟨blk,off,ha,hk⟩
   . left;rw[h5];rfl
   . exact .inr ⟨blk,off,ha,scr_repK H hb k xs blk off hk⟩
 | .sv b' off n,v,x=>by
   simp only[dY]
   split
   . rename_i hok
     simp only[Rep] at x ⊢
     obtain ⟨a,cap,h1,h2,h3,h4⟩:=x
     exact ⟨a,cap,h1,h2,h3,fun hz=>by obtain ⟨blk,q1,q2⟩:=h4 hz;exact ⟨blk,e9 H hb hok q1,q2⟩⟩
   . simp[Rep]
 | .gv b' m s,v,x=>by
   simp only[dY]
   split
   . rename_i hok
     simp only[Rep] at x ⊢
     obtain ⟨a,cap,h1,h2,h3,h4⟩:=x
     refine ⟨a,cap,h1,h2,h3,?_⟩
     rcases h4 with h4| ⟨blk,q1,q2,q3⟩
     . exact .inl h4
     . exact .inr ⟨blk,e9 H hb hok q1,q2,mz H hb hok q3⟩
   . simp[Rep]
 | .bp b' off,v,x=>by
   simp only[dY]
   split
   . rename_i hok
     simp only[Rep] at x ⊢
     obtain ⟨blk,h1,h2⟩:=x
     exact ⟨blk,e9 H hb hok h1,h2⟩
   . simp[Rep]
 | .mp b',v,x=>by
   simp only[dY]
   split
   . rename_i hok
     simp only[Rep] at x ⊢
     obtain ⟨blk,h1,h2⟩:=x
     exact ⟨blk,e9 H hb hok h1,h2⟩
   . simp[Rep]
 | .bt b' t n,v,x=>by
   simp only[dY]
   split
   . rename_i hok
     simp only[Rep] at x ⊢
     obtain ⟨blk,h1,h2,h3⟩:=x
     exact ⟨blk,e9 H hb hok h1,h2,mz H hb hok h3⟩
   . simp[Rep]
 | .kp xs,v,x=>by
   simp only[dY,Rep] at x ⊢
   obtain ⟨blk,off,h1,h2⟩:=x
   exact ⟨blk,off,h1,scr_repK H hb k xs blk off h2⟩
 | .agg xs,v,x=>by
   simp only[dY,Rep] at x ⊢
   obtain ⟨vs,h1,h2,h3⟩:=x
   exact ⟨vs,h1,scr_repL H hb k xs _ h2,h3⟩
 | .tup xs,v,x=>by
   simp only[dY,Rep] at x ⊢
   obtain ⟨vs,h1,h2⟩:=x
   exact ⟨vs,h1,scr_repL H hb k xs _ h2⟩
 | .fn f xs,v,x=>by
   simp only[dY,Rep] at x ⊢
   obtain ⟨vs,h1,h2⟩:=x
   exact ⟨vs,h1,scr_repL H hb k xs _ h2⟩
theorem scr_repL (H:WorldOK G h w)(hb:h.at b=some cells)(k:Nat):∀ (xs:List C)(vs:List Value),RepL G xs vs→RepL (dK G w b k) (scrs (ec h b) xs) vs
 | [],vs,r=>by simpa[scrs,RepL] using r
 |x::xs,vs,r=>by
  simp only[scrs,RepL] at r ⊢
  obtain ⟨v,vs',h1,h2,h3⟩:=r
  exact ⟨v,vs',h1,ru H hb k x v h2,scr_repL H hb k xs vs' h3⟩
theorem scr_repK (H:WorldOK G h w)(hb:h.at b=some cells)(k:Nat):∀ (xs:List C)(blk off:Nat),RepK G blk off xs→RepK (dK G w b k) blk off (scrs (ec h b) xs)
 | [],_,_,_=>by simp[scrs,RepK]
 |x::xs,blk,off,r=>by
  simp only[scrs,RepK] at r ⊢
  obtain ⟨⟨u,h1,h2,h3⟩,h4⟩:=r
  exact ⟨⟨u,(nM H k).K _ _ _ h1,h2,ru H hb k x u h3⟩,scr_repK H hb k xs blk (off+1) h4⟩
end
def fzY (h:Hp)(b:Nat)(cells:List C):List C:=(scrs (ec h b) cells).map C.noR
theorem JK (h:Hp)(b:Nat)(cells:List C): (fzY h b cells).length=cells.length:=by simp[fzY,pt]
theorem uy (H:WorldOK G h w)(hb:h.at b=some cells){blk:Nat}(hm:G.μ b=some blk):RepK (dK G w b cells.length) blk 0 (fzY h b cells):=by
 obtain ⟨cs,e,⟨fr,q2,_⟩,q0,q3,q4⟩:=H.bx hb hm
 refine RepK.of_get fun i x hx=>?_
 have hil:i< cells.length:=by have:=(List.getElem?_eq_some_iff.1 hx).1;rwa [JK] at this
 unfold fzY at hx
 rw[pt,List.map_map,List.getElem?_map] at hx
 cases hc:cells[i]? with
 |none=>rw[hc] at hx;cases hx
 |some y=>
  rw[hc] at hx
  simp only[Option.map_some,Option.some.injEq,Function.comp] at hx
  subst hx
  obtain ⟨u,hu,hr⟩:=q3.get i y hc
  rw[List.getElem?_take,if_pos hil] at hu
  refine ⟨u,?_,q4 u (List.mem_of_getElem? hu),(ru H hb cells.length y u hr).noR⟩
  simp only[dK,Nat.zero_add]
  rw[if_pos ⟨hm,hil⟩]
  exact qX q2 _ _ hu
mutual
theorem kh (H:WorldOK G h w)(hb:h.at b=some cells):∀ (c:C)(v:Value),Rep G c v→Rep (dK G w b cells.length) (bg (ec h b) b (fzY h b cells) c) v
 | .top,_,_=>by simp[bg,Rep]
 | .val u,v,r=>by simpa[bg,Rep] using r
 | .sl r n xs,v,x=>by
   simp only[bg,Rep] at x ⊢
   obtain ⟨a,cap,h1,h2,h3,h4,h5⟩:=x
   refine ⟨a,cap,h1,h2,h3,h4,?_⟩
   rcases h5 with h5| ⟨blk,off,ha,hk⟩
   . left;rw[h5];rfl
   . exact .inr ⟨blk,off,ha,fzC_repK H hb xs blk off hk⟩
 | .sv b' off n,v,x=>by
   simp only[bg]
   split
   . rename_i e
     subst e
     split
     . rename_i hle
       simp only[Rep] at x ⊢
       obtain ⟨a,cap,h1,h2,h3,h4⟩:=x
       refine ⟨a,cap,h1,h2,h3,by simp,?_⟩
       by_cases hn:n=0
       . left;subst hn;simp
       . right
         obtain ⟨blk,q1,q2⟩:=h4 hn
         refine ⟨blk,off,q2,?_⟩
         have:=(uy H hb q1).drop off
         rw[Nat.zero_add] at this
         exact this.take n
     . simp[Rep]
   . split
     . rename_i hok
       simp only[Rep] at x ⊢
       obtain ⟨a,cap,h1,h2,h3,h4⟩:=x
       exact ⟨a,cap,h1,h2,h3,fun hz=>by obtain ⟨blk,q1,q2⟩:=h4 hz;exact ⟨blk,e9 H hb hok q1,q2⟩⟩
     . simp[Rep]
 | .gv b' m s,v,x=>by
   simp only[bg]
   split
   . rename_i e
     subst e
     split
     . rename_i hle
       simp only[Rep] at x ⊢
       obtain ⟨a,cap,h1,h2,h3,h4⟩:=x
       refine ⟨a,cap,h1,h2,h3,by simp,?_⟩
       rcases h4 with ⟨rfl,_⟩ | ⟨blk,q1,q2,q3⟩
       . left;simp
       . right
         exact ⟨blk,0,q2,(uy H hb q1).take _⟩
     . simp[Rep]
   . split
     . rename_i hok
       simp only[Rep] at x ⊢
       obtain ⟨a,cap,h1,h2,h3,h4⟩:=x
       refine ⟨a,cap,h1,h2,h3,?_⟩
       rcases h4 with h4| ⟨blk,q1,q2,q3⟩
       . exact .inl h4
       . exact .inr ⟨blk,e9 H hb hok q1,q2,mz H hb hok q3⟩
     . simp[Rep]
 | .mp b',v,x=>by
   simp only[bg]
   split
   . simp[Rep]
   . split
     . rename_i hok
       simp only[Rep] at x ⊢
       obtain ⟨blk,h1,h2⟩:=x
       exact ⟨blk,e9 H hb hok h1,h2⟩
     . simp[Rep]
 | .bt b' t n,v,x=>by
   simp only[bg]
   split
   . simp[Rep]
   . split
     . rename_i hok
       simp only[Rep] at x ⊢
       obtain ⟨blk,h1,h2,h3⟩:=x
       exact ⟨blk,e9 H hb hok h1,h2,mz H hb hok h3⟩
     . simp[Rep]
 | .bp b' off,v,x=>by
   simp only[bg]
   split
   . rename_i e
     subst e
     simp only[Rep] at x ⊢
     obtain ⟨blk,h1,h2⟩:=x
     refine ⟨blk,off,h2,?_⟩
     have:=(uy H hb h1).drop off
     rwa [Nat.zero_add] at this
   . split
     . rename_i hok
       simp only[Rep] at x ⊢
       obtain ⟨blk,h1,h2⟩:=x
       exact ⟨blk,e9 H hb hok h1,h2⟩
     . simp[Rep]
 | .kp xs,v,x=>by
   simp only[bg,Rep] at x ⊢
   obtain ⟨blk,off,h1,h2⟩:=x
   exact ⟨blk,off,h1,fzC_repK H hb xs blk off h2⟩
 | .agg xs,v,x=>by
   simp only[bg,Rep] at x ⊢
   obtain ⟨vs,h1,h2,h3⟩:=x
   exact ⟨vs,h1,fzC_repL H hb xs _ h2,h3⟩
 | .tup xs,v,x=>by
   simp only[bg,Rep] at x ⊢
   obtain ⟨vs,h1,h2⟩:=x
   exact ⟨vs,h1,fzC_repL H hb xs _ h2⟩
 | .fn f xs,v,x=>by
   simp only[bg,Rep] at x ⊢
   obtain ⟨vs,h1,h2⟩:=x
   exact ⟨vs,h1,fzC_repL H hb xs _ h2⟩
theorem fzC_repL (H:WorldOK G h w)(hb:h.at b=some cells):∀ (xs:List C)(vs:List Value),RepL G xs vs→RepL (dK G w b cells.length) (fzCs (ec h b) b (fzY h b cells) xs) vs
 | [],vs,r=>by simpa[fzCs,RepL] using r
 |x::xs,vs,r=>by
  simp only[fzCs,RepL] at r ⊢
  obtain ⟨v,vs',h1,h2,h3⟩:=r
  exact ⟨v,vs',h1,kh H hb x v h2,fzC_repL H hb xs vs' h3⟩
theorem fzC_repK (H:WorldOK G h w)(hb:h.at b=some cells):∀ (xs:List C)(blk off:Nat),RepK G blk off xs→RepK (dK G w b cells.length) blk off (fzCs (ec h b) b (fzY h b cells) xs)
 | [],_,_,_=>by simp[fzCs,RepK]
 |x::xs,blk,off,r=>by
  simp only[fzCs,RepK] at r ⊢
  obtain ⟨⟨u,h1,h2,h3⟩,h4⟩:=r
  exact ⟨⟨u,(nM H _).K _ _ _ h1,h2,kh H hb x u h3⟩,fzC_repK H hb xs blk (off+1) h4⟩
end
theorem nN {ok:Nat→Bool}{ys:List C}{c:C}{s m:Nat}{xs:List C}(hc:bg ok b ys c= .sl (.own s) m xs):∃zs,c= .sl (.own s) m zs:=by
 cases c with
 |sl r k zs=>simp only[bg] at hc;cases hc;exact ⟨zs,rfl⟩
 |sv b o k=>simp only[bg] at hc;repeat' split at hc
            all_goals cases hc
 |gv b o k=>simp only[bg] at hc;repeat' split at hc
            all_goals cases hc
 |bp b o=>simp only[bg] at hc;repeat' split at hc
          all_goals cases hc
 |bt b t n=>simp only[bg] at hc;repeat' split at hc
            all_goals cases hc
 |mp b=>simp only[bg] at hc;repeat' split at hc
        all_goals cases hc
 |_=>simp only[bg] at hc;cases hc
theorem Bh {ok:Nat→Bool}{ys:List C}{c:C}{u:Value}(h:bg ok b ys c= .val u):c= .val u:=by
 cases c with
 |val v=>simp only[bg] at h;exact h
 |sv b o k=>simp only[bg] at h;repeat' split at h
            all_goals cases h
 |gv b o k=>simp only[bg] at h;repeat' split at h
            all_goals cases h
 |bp b o=>simp only[bg] at h;repeat' split at h
          all_goals cases h
 |bt b t n=>simp only[bg] at h;repeat' split at h
            all_goals cases h
 |mp b=>simp only[bg] at h;repeat' split at h
        all_goals cases h
 |_=>simp only[bg] at h;cases h
theorem Bi {ok:Nat→Bool}{ys:List C}{c:C}{xs:List C}(h:bg ok b ys c= .tup xs):∃zs,c= .tup zs∧xs=fzCs ok b ys zs:=by
 cases c with
 |tup zs=>simp only[bg] at h;cases h;exact ⟨zs,rfl,rfl⟩
 |sv b o k=>simp only[bg] at h;repeat' split at h
            all_goals cases h
 |gv b o k=>simp only[bg] at h;repeat' split at h
            all_goals cases h
 |bp b o=>simp only[bg] at h;repeat' split at h
          all_goals cases h
 |bt b t n=>simp only[bg] at h;repeat' split at h
            all_goals cases h
 |mp b=>simp only[bg] at h;repeat' split at h
        all_goals cases h
 |_=>simp only[bg] at h;cases h
theorem lJ {ok:Nat→Bool}{ys:List C}(hb:b< h.length){j:Nat}{l:List C}(hj:Hp.mp (kU ok b ys h) j=some l):j≠b∧∃l0,h.mp j=some l0∧l=fzCs ok b ys l0:=by
 unfold kU at hj
 obtain ⟨n1,n2⟩:=gD (h:=h.map fun o=>o.map (fzCs ok b ys)) (by simpa using hb) rfl j l hj
 refine ⟨n1,?_⟩
 unfold Hp.mp at n2
 rw[List.getElem?_map] at n2
 cases hq:h[j]? with
 |none=>rw[hq] at n2;cases n2
 |some o=>
  rw[hq] at n2
  cases o with
  |none=>cases n2
  |some c0=>
   obtain ⟨l0,h1,h2⟩:=rr (Fs:=fzCs ok b ys) (jj ok b ys) (fun _ _=>Bh) (fun _ _=>Bi) (cells:=c0) n2
   exact ⟨l0,by unfold Hp.mp;rw[hq];exact h1,h2⟩
theorem uz (H:WorldOK G h w)(hb:h.at b=some cells):∀ (l:List C)(es:List MapEntry),MRep G l es→MRep (dK G w b cells.length) (fzCs (ec h b) b (fzY h b cells) l) es
 | [],_,r=>by simpa[MRep,fzCs] using r
 | [_],_,r=>by simp[MRep] at r
 |k::v::l,es,r=>by
  simp only[MRep,fzCs] at r ⊢
  obtain ⟨e,es',h1,h2,h3,h4⟩:=r
  exact ⟨e,es',h1,kh H hb k _ h2,kh H hb v _ h3,uz H hb l es' h4⟩
theorem jM {ok:Nat→Bool}{ys:List C}(hb:h.at b=some cells){j:Nat}{c':List C}(hj:Hp.at (kU ok b ys h) j=some c'):j≠b∧∃c0,h.at j=some c0∧c'=fzCs ok b ys c0:=by
 have hlen:=eK hb
 unfold kU at hj
 rw[cI (by simpa using hlen)] at hj
 split at hj
 . cases hj
 . rename_i hne
   refine ⟨hne,?_⟩
   have h1:=fH hj
   rw[List.getElem?_map] at h1
   cases hq:h[j]? with
   |none=>rw[hq] at h1;cases h1
   |some o=>
    rw[hq] at h1
    cases o with
    |none=>cases h1
    |some c0=>
     simp only[Option.map_some,Option.some.injEq] at h1
     refine ⟨c0,?_,h1.symm⟩
     have hl:=gi hj
     unfold Hp.at
     rw[hq]
     subst h1
     show aP (some c0) =_
     cases c0 with
     |nil=>rfl
     |cons x l=>
      cases x with
      |tup xs=>simp only[fzCs,bg] at hl;cases hl
      |_=>rfl
theorem OwnRow.fz {k:Nat}{p:bG}{v:Value}{s m:Nat}(O:OwnRow G w p v s m):OwnRow (dK G w b k) w p v s m:=by
 rcases O with O| ⟨g,cap,cur,e,a1,a2,a3,a4,a5,a6⟩
 . exact .inl O
 . refine .inr ⟨g,cap,cur,e,a1,a2,a3,a4,fun o ho=>?_,fun b' hb'=>?_⟩
   . simp only[dK]
     rw[if_neg (fun x=>a6 b x.1)]
     exact a5 o ho
   . simp only[dK] at hb'
     split at hb'
     . cases hb'
     . exact a6 b' hb'
theorem WorldOK.fz (H:WorldOK G h w)(hb:h.at b=some cells):WorldOK (dK G w b cells.length) (kU (ec h b) b (fzY h b cells) h) w:=by
 have hlen:=eK hb
 have hμ:∀ {j blk},(dK G w b cells.length).μ j=some blk→G.μ j=some blk∧j≠b∧G.μ b≠some blk:=fun {j blk} x=>by
  simp only[dK] at x
  split at x
  . cases x
  . rename_i hne
    refine ⟨x,fun e=>hne (.inl e),fun e=>hne (.inr ⟨blk,e,x⟩)⟩
 refine ⟨fun blk off u hk=>?_,fun j c' hj=>?_,fun j blk hm=>?_,fun j j' c c' blk hj hj' hm hm'=>?_,fun j blk hm=>?_,H.tlt,fun j c' off s m xs blk v hj hc hm hv=>?_,fun j z hz=>?_,fun j l hj=>?_,fun j j' l l' blk x x' y y'=>?_⟩
 . simp only[dK] at hk
   split at hk
   . exact hk
   . exact H.known blk off u hk
 . obtain ⟨hne,c0,h2,rfl⟩:=jM hb hj
   have hok:ec h b j=true:=by simp[ec,h2,hne]
   rcases H.box j c0 h2 with ⟨hE,hE2⟩ | ⟨blk,cs,e,q1,q2,q3,q4,q5⟩
   . refine .inl ⟨by rw[hE];rfl,?_⟩
     simp only[dK]
     split
     . rfl
     . exact hE2
   . have hl: (fzCs (ec h b) b (fzY h b cells) c0).length=c0.length:=by rw[jj];simp
     exact .inr ⟨blk,cs,e,e9 H hb hok q1,q2,by rw[hl];exact q3,by rw[hl];exact fzC_repL H hb _ _ q4,q5⟩
 . obtain ⟨h1,h2,h3⟩:=hμ hm
   obtain ⟨⟨c,hc⟩,hl⟩:=H.dom j blk h1
   refine ⟨⟨fzCs (ec h b) b (fzY h b cells) c,?_⟩,hl⟩
   unfold kU
   rw[List.getElem?_set,if_neg (Ne.symm h2),List.getElem?_map,hc];rfl
 . obtain ⟨h1,_,_⟩:=hμ hm
   obtain ⟨h1',_,_⟩:=hμ hm'
   obtain ⟨_,c0,g2,_⟩:=jM hb hj
   obtain ⟨_,c0',g2',_⟩:=jM hb hj'
   exact H.inj j j' _ _ blk g2 g2' h1 h1'
 . obtain ⟨h1,h2,h3⟩:=hμ hm
   obtain ⟨s1,s2⟩:=H.sep j blk h1
   refine ⟨fun o=>?_,s2⟩
   simp only[dK]
   rw[if_neg (fun x=>h3 x.1)]
   exact s1 o
 . obtain ⟨h1,_,_⟩:=hμ hm
   obtain ⟨_,c0,g2,rfl⟩:=jM hb hj
   rw[jj,List.getElem?_map] at hc
   cases hq:c0[off]? with
   |none=>rw[hq] at hc;cases hc
   |some y=>
    rw[hq] at hc
    simp only[Option.map_some,Option.some.injEq] at hc
    obtain ⟨zs,rfl⟩:=nN hc
    exact (H.own j c0 off s m zs blk v g2 hq h1 hv).fz
 . simp only[dK] at hz ⊢
   split at hz
   . cases hz
   . rename_i hne
     obtain ⟨blk,cs,e,fr,q1,q2,q3⟩:=H.siz j z hz
     exact ⟨blk,cs,e,fr,by rw[if_neg hne];exact q1,q2,q3⟩
 . obtain ⟨n1,l0,n2,rfl⟩:=lJ hlen hj
   obtain ⟨blk,es,clk,q1,q2,q3⟩:=H.mpo j l0 n2
   have hok:ec h b j=true:=by simp[ec,n2,n1]
   exact ⟨blk,es,clk,e9 H hb hok q1,q2,uz H hb l0 _ q3⟩
 . obtain ⟨n1,l0,n2,rfl⟩:=lJ hlen x
   obtain ⟨n1',l0',n2',rfl⟩:=lJ hlen x'
   exact H.mpi j j' _ _ blk n2 n2' (hμ y).1 (hμ y').1
theorem wU (H:WorldOK G h w)(hb:h.at b=some cells)(hnb:n≤b)(hn:∀j,j< n→((h.at j).isSome|| (h.mp j).isSome) =true∨h[j]? =some none)(k:Nat):FrmN n G w (dK G w b k) w:=by
 have keep:∀j,j< n→∀blk,G.μ j=some blk→ec h b j=true:=fun j hj blk hm=>by
  rcases hn j hj with h1|h1
  . simp[ec,h1];omega
  . obtain ⟨⟨c,hc⟩,_⟩:=H.dom j blk hm
    rw[h1] at hc;cases hc
 refine ⟨rfl,rfl,rfl,Nat.le_refl _,fun g o u x=>(nM H k).K g o u x,fun j blk hj x=>e9 H hb (keep j hj blk x) x,fun j z hj x=>?_,fun g _ ht hm=>⟨rfl,ht,fun j hj=>?_,fun o=>?_⟩⟩
 . obtain ⟨blk,_,_,_,q1,_⟩:=H.siz j z x
   exact mz H hb (keep j hj blk q1) x
 . simp only[dK] at hj
   split at hj
   . cases hj
   . exact hm j hj
 . simp only[dK]
   rw[if_neg (fun x=>hm b x.1)]
theorem Tr.fz (hcx:CxOK cx){c:Code}(b:Nat){cells:List C}(hb:st.h.at b=some cells)(hnb:n≤b)(hn:∀j,j< n→((st.h.at j).isSome|| (st.h.mp j).isSome) =true∨st.h[j]? =some none)
 (K:Tr cx n c ⟨fun t=>bg (ec st.h b) b (fzY st.h b cells) (st.env t),kU (ec st.h b) b (fzY st.h b cells) st.h⟩ Q):Tr cx n c st Q:=fun r hr G w a S R hR=>
 K r hr (dK G w b cells.length) w a ⟨S.defers.same (fun _ h=>h) (fun g h b' hb'=>by
     simp only[dK] at hb'
     split at hb'
     . cases hb'
     . exact h b' hb'),S.size,S.pre.ok.fz hb,⟨fun t=>kh S.pre.ok hb _ _ (S.pre.env.1 t),fun t s m xs e=>by
     obtain ⟨ys,hy⟩:=nN e
     exact (S.pre.env.2 t s m ys hy).fz⟩,fun g=>(ez _ _ (hcx.glo g) (S.pre.glob g)).mono (nM S.pre.ok _)⟩ R
   fun x s G' w' a' q S' F=>hR x s G' w' a' q S' ((wU S.pre.ok hb hnb hn _).transA F)
end
end Go.Sx
