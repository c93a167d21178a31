/-
   And what follows.
-/
import Derived.Lib.SlBytesConst
import Derived.SizedLaws
import Derived.JoinedCond
import Derived.Deep.CondSized
import Derived.Below
import Derived.Test.YtcpdlhgkdogdjaaDoorPai
set_option linter.unusedSimpArgs false
set_option linter.unusedVariables false
namespace Go.Sx
open Go.RowKit
theorem vI (d:TD)(h:d.isAgg=false)(cells:List C)(o:Nat):cA d cells o=cb cells o:=by
 unfold cA cb;rw[h];rfl
section
variable (P:Program)
theorem Em {α:Type}[Inhabited α][DecidableEq α]{f:α→List C}{g:α→C}[hf:Sca f g](F:C→C→Option Bool)(de:TD)(hd:de.isAgg=false)(hs:de.size=1)(hF:∀a b,F (g a) (g b) =some (decide (a=b)))
 (x y:List α) (n:Nat) (hx:x.length=n) (hy:y.length=n):∀m i,i+m=n→oX F de (cl f x) (cl f y) (List.range' i m) =some (decide (x.drop i=y.drop i))
 |0,i,h=>by
  rw[List.drop_of_length_le (by omega),List.drop_of_length_le (by omega)];simp[oX]
 |m+1,i,h=>by
  have hxi:i< x.length:=by omega
  have hyi:i< y.length:=by omega
  rw[List.range'_succ];unfold oX;rw[vI _ hd,vI _ hd,hs,Nat.mul_one,sY (f:=f) x i hxi,sY (f:=f) y i hyi];simp only[];rw[hF];have e1:x.drop i=x.getD i default::x.drop (i+1):=by rw[List.drop_eq_getElem_cons hxi];simp[List.getD,List.getElem?_eq_getElem hxi]
  have e2:y.drop i=y.getD i default::y.drop (i+1):=by rw[List.drop_eq_getElem_cons hyi];simp[List.getD,List.getElem?_eq_getElem hyi]
  rw[e1,e2];by_cases hab:x.getD i default=y.getD i default
  . rw[decide_eq_true hab]
    simp only[];rw[Em F de hd hs hF x y n hx hy m (i+1) (by omega),hab];simp
  . rw[decide_eq_false hab]
    simp only[];rw[decide_eq_false];intro hc;exact hab (List.cons.inj hc).1
def s7 (op:BinOp)(b:Bool):Option Plan:=match op with
 | .eql=>some (vp (.val (.bool b)))
 | .neq=>some (vp (.val (.bool (!b))))
 |_=>none
theorem NZ (b:Bool):s7 .eql b=some (vp (.val (.bool b))):=rfl
theorem N0 (b:Bool):s7 .neq b=some (vp (.val (.bool (!b)))):=rfl
theorem ru {t:TypeId}{x y:List C}{b:Bool}(op:BinOp)(hg:P.eqGuardType P.depth t=false)(h:gL P 9 t (.agg x) (.agg y) =some b):aw P op t (.agg x) (.agg y) =s7 op b:=by
 show ji P op t (.agg x) (.agg y) =_;unfold ji;rw[if_pos ⟨.inl ⟨rfl,rfl⟩,hg⟩];unfold s7;cases op<;>simp[h,vp,Plan.pure]
theorem uB {t:TypeId}{k:IntKind}{s y:Nat}{z:List Value}(d:Nat)(h:td P t=some ⟨.int k,s,y,z⟩)(a b:Int):gL P (d+1) t (.val (.int k a)) (.val (.int k b)) =some (decide (a=b)):=by
 unfold gL;rw[h];simp only[if_true];congr 1
theorem Sg {t:TypeId}{s y:Nat}{z:List Value}(d:Nat)(h:td P t=some ⟨.int .u8,s,y,z⟩)(a b:UInt8):gL P (d+1) t (.val (w8 a)) (.val (w8 b)) =some (decide (a=b)):=by
 have:=uB P d h a.toNat b.toNat;rw[w8,w8,this];congr 1;rw[decide_eq_decide]
 exact ⟨fun h=>UInt8.toNat_inj.1 (by omega),fun h=>by rw[h]⟩
theorem IH {t e:TypeId}{n s y y2:Nat}{z z2:List Value}(d:Nat)(h:td P t=some ⟨.array n e,s,y,z⟩)(he:td P e=some ⟨.int .u8,1,y2,z2⟩)(a b:List UInt8)(ha:a.length=n)(hb:b.length=n):
 gL P (d+2) t (.agg (cl bC a)) (.agg (cl bC b)) =some (decide (a=b)):=by
 unfold gL;rw[h];simp only[];rw[he]
 simp only[C.agg?];have:=Em (f:=bC) (gL P (d+1) e) ⟨.int .u8,1,y2,z2⟩ rfl rfl (fun a b=>Sg P d he a b) a b n ha hb n 0 (by omega);simpa using this
theorem N1 {t e:TypeId}{n s y y2:Nat}{z z2:List Value}(h:td P t=some ⟨.array n e,s,y,z⟩)(he:td P e=some ⟨.int .u8,1,y2,z2⟩)(hg:P.eqGuardType P.depth t=false)(op:BinOp)(a b:List UInt8)(ha:a.length=n)(hb:b.length=n):
 aw P op t (.agg (cl bC a)) (.agg (cl bC b)) =s7 op (decide (a=b)):=ru P op hg (IH P 7 h he a b ha hb)
end
@[congr] theorem aaq {cx:Cx} {apps:List Nat} {dsts:List (Option Nat)} {l:List Oper} {id:Nat} {d:Option Nat} {e:List (Nat×C)} {h:Hp} {fs:List FP} {K:List FP→St→Prop} {ty:TypeId} {pos:String} {aft:Array Edge} {op:Op} {p p':Option Bool} (hp:p=p'):
   Dn cx apps dsts l id d e h fs K ty pos aft op p=Dn cx apps dsts l id d e h fs K ty pos aft op p':=by rw[hp]
def xy (c:C)(w:Bool):Option Bool:=match c with
 | .val (.bool b) =>some (b==w)
 | .val (.tuple _) =>some false
 |_=>none
def Si (d:Option (Option Nat))(w:Bool)(e:List (Nat×C)):Option Bool:=match d.bind id with
 |none=>some false
 |some t=>xy (A e t).noR w
theorem II (dsts:List (Option Nat))(j:Nat)(w:Bool)(e:List (Nat×C)):gO dsts (some (j,w)) (A e) =Si (dsts[j]?) w e:=rfl
theorem En (t:Nat)(w:Bool)(e:List (Nat×C)):Si (some (some t)) w e=xy (A e t).noR w:=rfl
theorem Sj (b:Bool):xy (.val (.bool b)) true=some b:=by cases b<;>rfl
theorem Sk (b:Bool):xy (.val (.bool b)) false=some (!b):=by cases b<;>rfl
theorem Sl (w:Bool):xy (.val undef) w=some false:=rfl
section
variable {cx:Cx} {G:Gh} {w:World} {st:St} {a:Act}
structure Lit (cx:Cx) (ops ops':Array Oper) (k:Nat):Prop where
 dst:ops'.toList.map (·.dst) =ops.toList.map (·.dst)
 app:ops'.toList.filterMap ct=ops.toList.filterMap ct
 dF:∀i,dF ops' i=dF ops i
 same:∀i,i≠k+1→ops'[i]? =ops[i]?
 two:∃p q t n ps ty1 pos1 aft1 ty2 pos2 aft2 e s y z y2 z2,ops[k]? =some ⟨some p,.buildSlice t n ps,ty1,pos1,aft1,none⟩∧ops[k+1]? =some ⟨some q,.convert t t (.tmp p),ty2,pos2,aft2,none⟩∧
  ops'[k+1]? =some ⟨some q,.move (.tmp p),ty2,pos2,aft2,none⟩∧td cx.P t=some ⟨.slice e,s,y,z⟩∧td cx.P e=some ⟨.int .u8,1,y2,z2⟩∧cx.gr p=false
end
class Inj {α:Type} (f:α→List C):Prop where
 inj:∀a b,f a=f b→a=b
instance:Inj bC:=⟨fun a b h=>by simpa[bC,Dx] using h⟩
instance:Inj wC:=⟨fun a b h=>by simpa[wC,zy] using h⟩
instance:Inj sC:=⟨fun a b h=>by simpa[sC,nW] using h⟩
instance:Inj nC:=⟨fun a b h=>by simpa[nC,me] using h⟩
instance:Inj iC:=⟨fun a b h=>by simpa[iC] using h⟩
instance:Inj oC:=⟨fun a b h=>by simpa[oC] using h⟩
theorem qa {α:Type}{f:α→List C}{s:Nat}[hf:Cel f s][hi:Inj f]:∀ {l l':List α},cl f l=cl f l'↔l=l':=by
 intro l l';constructor
 . induction l generalizing l' with
   |nil=>
    intro h
    cases l' with
    |nil=>rfl
    |cons a l'=>
     have:=congrArg List.length h;rw[Dz,cg,List.length_append,hf.len] at this;have:=hf.pos;simp at*
     omega
   |cons a l ih=>
    intro h
    cases l' with
    |nil=>
     have:=congrArg List.length h;rw[Dz,cg,List.length_append,hf.len] at this;have:=hf.pos;simp at*
     omega
    |cons b l'=>
     rw[cg,cg] at h;obtain ⟨h1,h2⟩:=List.append_inj h (by rw[hf.len,hf.len]);rw[hi.inj _ _ h1,ih h2]
 . rintro rfl;rfl
theorem kX {α:Type}{f:α→List C}{s:Nat}[hf:Cel f s][hi:Inj f]{r:Rt}{l l':List α}:sl f r l=sl f r l'↔l=l':=by
 constructor
 . intro h
   simp only[sl,C.sl.injEq,true_and] at h;exact qa.1 h.2
 . rintro rfl;rfl
theorem zQ {α:Type}{f:α→List C}{s:Nat}[hf:Cel f s][hi:Inj f]{l l':List α}{r r':List C}(hl:l.length=l'.length):cl f l++r=cl f l'++r'↔l=l'∧r=r':=by
 constructor
 . intro h
   obtain ⟨h1,h2⟩:=List.append_inj h (by rw[aD (f:=f),aD (f:=f),hl]);exact ⟨qa.1 h1,h2⟩
 . rintro ⟨rfl,rfl⟩;rfl
attribute [go_sem ↓] aT zv xb
attribute [go_sem] eH Iu Bz BB H9 DZ D4 BC BD Ia Ib Nx Ic BE Ny Id Ie If D5 Nz NA RR RS Ih vF NB d7 io ip js bf bQ cH cV fC H7 H8 rW vE Bool.and_self Bool.and_true QS Ha Dc Mt Mu Dd Hb Bg not_true_eq_false not_false_eq_true Mv Hc QT QU QV QW Mw Mx QX My HN Br DO MB MF MG MH Hq Dv MI run_build Bn Hr run_store Ht MJ Q3 Hu MK ML MM Dw Q4 MN Q5 Hv MO MP Hw MQ MR Hx MC MD Do Dp Dq Dr vY Bi Ds ut uu Bj Dt Dk Hg Hh QY QZ Q0 MA Hi Hj Dl Dm Hk Hl Hm Mz G7 G8 HC MY MZ M1 Q6 KG Mr G9 Bool.or_false Bool.false_or Bool.true_or Bool.or_true beq_self_eq_true vr vt List.map_nil List.map_cons Option.map_none Option.map_some Option.bind_some Option.bind_none XO XP XQ acf XR Q9 Ra Rb XT XU XV XW XX XY XZ X0 X1 X2 X3 X4 X5 X6 X7 X8 X9 Ya Yb Yc Yd Ye Yf Yg Nv DF Nw RP Q8 Yi Yj Yk ne_eq II En Sj Sk Sl NZ N0 eq_self decide_true decide_false Bool.not_true Bool.not_false KP R4 wj R5 KQ R6 KR R7 KS R8 KU KV KW KX R9 Sa Sb Sc Yx acg Sd NV NW NX NY Se Sf M3 HD HE HF M4 M5 HG HH Rc Re Nu Yl Rf Ym Rh Yn Rk M6 M7 M8 Rm M9 Na Bo Nb Nc Nd Rn Nf Bp DH DI xh Ng HI DJ HJ HK HL DK DL Bq DM DN dL RM DT NQ It BF y9 BG BH RV NP RW RX zG D8 D9 Ea zH xu vH xx Ef NS Iv Iw Iz Eg Eh Ei Yr zF DY xn Ro xi o7 Rp HM Rq Rr NG Ik Rx Ni HR Nj HS Ru Nh Rv Rw Nat.mul_one Nat.zero_add Nat.add_zero HT HU RA HV Nk HW RB ND Ij Yq NE RE RF RG Nl xm Nm HX Np Nn No Ho rS wh kV List.append_nil DP HO HP Bu Bh De Hd He Dg Hf Bs xj Rl Ir Is IC NO List.map_append Io rX NK Eb IE IF Ip RU Iq Yt Yu Yv NL NM Ed zJ Nat.sub_zero Nat.zero_mul List.drop_zero List.drop_succ_cons List.take_succ_cons List.take_zero xf rV vx DD HA sY MU NT IA MV Yo Yp NU IB zC HB MW List.set_cons_zero List.set_cons_succ List.getElem?_cons_zero List.getElem?_cons_succ List.length_nil List.length_cons List.nil_append List.cons_append Nat.add_sub_cancel_left List.length_set List.length_replicate RO
end Go.Sx
namespace Go.Sx
open Go.RowKit Go.ChangeShapes
theorem Eo {H:Type}{enc:TypeId×Value→H}{P:Program}{W:World}{base:Nat}{sp:Nat→Bool}{held:Bool}{fuel:Nat}{t e:TypeId}{n:Nat}{k:IntKind}{cs:List Value}{p:List MemPlace}{ns:List Int}
 (ht:P.underlying t=some (.array n e)) (he:P.underlying e=some (.int k)) (hc:P.cellsOf e=1) (hn:P.cellsOf t=n)
 (h:DataW.trod enc P W base sp held fuel t cs=some (.agg (ns.map fun m=> .lit (.int k m)),p)):cs=ns.map (.int k ·):=by
 obtain ⟨xs,m,_,hx,hlen,hxl,hel⟩:=DataW.trod_array ht h;simp only[Prod.mk.injEq,DataW.agg.injEq] at hx;have hnl:ns.length=n:=by
  have:=congrArg List.length hx.1;simp only[List.length_map] at this;omega
 have each:∀i< n,∃z,cs[i]? =some (.int k z)∧ns[i]? =some z:=fun i hi=>by
  have h1:=hel i hi;rw[List.getElem?_eq_getElem (by omega),hc,Nat.mul_one] at h1;obtain ⟨z,h2,h3,_⟩:=DataW.trod_int he h1;refine ⟨z,?_,?_⟩
  . have h4:=congrArg (fun l=>l[0]?) h2
    simpa[List.getElem?_take,List.getElem?_drop] using h4
  . have h5:=congrArg (fun l=>l[i]?) hx.1
    simp only[List.getElem?_map] at h5;rw[List.getElem?_eq_getElem (l:=xs) (by omega),h3] at h5;simp only[Option.map_some] at h5
    cases hq:ns[i]? with
    |none=>rw[hq] at h5;cases h5
    |some z'=>rw[hq] at h5;simp only[Option.map_some,Option.some.injEq,DataW.lit.injEq,Lit.int.injEq,true_and] at h5;rw[h5]
 apply List.ext_getElem?;intro i;by_cases hi:i< n
 . obtain ⟨z,h1,h2⟩:=each i hi
   rw[h1,List.getElem?_map,h2];rfl
 . rw[List.getElem?_eq_none (by omega),List.getElem?_eq_none (by simp;omega)]
theorem BL {P:Program}{W:World}{n:String}{g t e m fuel:Nat}{enc:TypeId×Value→Unit}{sp:Nat→Bool}{held:Bool}{cs:Array Value}{p:List MemPlace}{ws:List (BitVec 32)}
 (hg:P.globalNamed n=some g) (hv:W.var? P n=some cs) (ht:P.underlying t=some (.array m e)) (he:P.underlying e=some (.int .u32)) (hc:P.cellsOf e=1) (hn:P.cellsOf t=m)
 (h:DataW.trod enc P W 0 sp held fuel t cs.toList=some (.agg ((ws.map fun w=>(w.toNat:Int)).map fun m=> .lit (.int .u32 m)),p)):Rep (GW W) (.kp (cl wC ws)) (.pointer (some ⟨g,0,none⟩)):=by
 have hcs:=Eo ht he hc hn h;simp only[Rep];refine ⟨g,0,rfl,RepK.of_get fun i x hx=>?_⟩;have hi:i< ws.length:=by
  have:=(List.getElem?_eq_some_iff.1 hx).1;rw[aD (f:=wC)] at this;omega
 rw[DB (f:=wC) ws i hi] at hx;simp only[Option.some.injEq] at hx;subst hx;refine ⟨bY (ws.getD i default),?_,rfl,aj.2 rfl⟩;show W.cell? ⟨g,0+i,none⟩ =_;rw[World.var?_cell hg hv,Nat.zero_add,←Array.getElem?_toList,hcs];simp[List.getElem?_map,List.getD,List.getElem?_eq_getElem hi,bY]
theorem jQ {H:Type}{enc:TypeId×Value→H}{P:Program}{W:World}{b:Nat}{sp:Nat→Bool}{hd:Bool}{t:TypeId}{ts:List TypeId}{vs:List Value}{ds:List (DataW H)}{ps:List MemPlace}
 (h:DataW.TrodAll enc P W b sp hd (t::ts) vs ds ps):∃v vs' d ds' p q,vs=v::vs'∧ds=d::ds'∧DataW.Trod enc P W b sp hd t v d p∧DataW.TrodAll enc P W b sp hd ts vs' ds' q:=by
 cases vs<;>cases ds<;>simp only[DataW.TrodAll] at h
 obtain ⟨p,q,h1,h2,_⟩:=h;exact ⟨_,_,_,_,p,q,rfl,rfl,h1,h2⟩
theorem Ep {H:Type}{enc:TypeId×Value→H}{P:Program}{W:World}{b:Nat}{sp:Nat→Bool}{hd:Bool}{vs:List Value}{ds:List (DataW H)}{ps:List MemPlace}
 (h:DataW.TrodAll enc P W b sp hd [] vs ds ps):vs= []:=by
 cases vs<;>cases ds<;>simp only[DataW.TrodAll] at h<;>rfl
def AR (P:Program)(t:TypeId){α:Type}(g:α→C)(ok:α→Prop):Prop:=
 ∀ {H:Type}{enc:TypeId×Value→H}{W:World}{base b0:Nat}{sp:Nat→Bool}{held:Bool}{v:Value}{d:DataW H}{ps:List MemPlace},
   Value.okWide P W .any b0 t v→DataW.Trod enc P W base sp held t v d ps→∃a,ok a∧Rep (GW W) (g a) v
section
variable {P:Program} {t e:TypeId}
theorem Sm {s y:Nat}{z:List Value}(h:td P t=some ⟨.int .i64,s,y,z⟩):AR P t (fun n:Int=> .val (.int .i64 n)) fun n=> -9223372036854775808≤n∧n≤9223372036854775807:=
 fun h1 h2=>zP (f:=iC) (fun _=>rfl) (zN (aQ h).1) (fun u hu=>by rw[(aQ h).1] at hu;cases hu;trivial) h1 h2
theorem xB {α:Type}{f:α→List C}{ok:α→Prop}{s0 s y:Nat}[hf:Cel f s0]{z:List Value}(h:td P t=some ⟨.slice e,s,y,z⟩)(hc:P.cellsOf e=s0)(he:zL P e f ok):AR P t (fun l:List α=>sl f .no l) fun l=>l.length≤9223372036854775807∧∀a∈l,ok a:=
 fun h1 h2=>zP (f:=fun l=>[sl f .no l]) (fun _=>rfl) (Ek (aQ h).1 hc he) (fun u hu=>by rw[(aQ h).1] at hu;cases hu;trivial) h1 h2
end
end Go.Sx
namespace Go.Sx
attribute [go_sem] zG D8 D9 Ea zH xu vH NH NI Il Im NJ In aD Nq H3 Nr H4 H5 DX Ns H6 Nt Bx aX aK aE aM aF aN aO ga xa jP mh true_and and_true
end Go.Sx
namespace Go.Sx
open Go.RowKit
abbrev Dig:= {l:List UInt8 // l.length=16}
instance:Inhabited Dig:=⟨⟨List.replicate 16 0,by simp⟩⟩
def dC (d:Dig):List C:=cl bC d.1
instance:Cel dC 16:=⟨fun a=>by unfold dC;rw[aD (f:=bC),a.2],fun a=>by unfold dC;exact dL a.1,by decide,fun a r=>by
 unfold dC;obtain ⟨l,hl⟩:=a
 cases l with
 |nil=>simp at hl
 |cons b l=>rfl⟩
instance:Fla dC:=⟨fun a=>by unfold dC;exact rW bC a.1⟩
instance:Inj dC:=⟨fun a b h=>Subtype.ext (qa.1 h)⟩
def IJ (a b:Option C):Option C:=match a,b with
 |some a,some b=>some (.tup [a.noR,b.noR])
 |_,_=>none
def IK (a b c:Option C):Option C:=match a,b,c with
 |some a,some b,some c=>some (.tup [a.noR,b.noR,c.noR])
 |_,_,_=>none
theorem Sn (cx:Cx)(st:St)(r1 r2:ResultVar):jN cx st [r1,r2] =IJ (el cx st r1) (el cx st r2):=by
 unfold jN IJ;simp only[List.mapM_cons,List.mapM_nil,Option.bind_eq_bind,Option.pure_def];cases el cx st r1<;>cases el cx st r2<;>rfl
theorem So (cx:Cx)(st:St)(r1 r2 r3:ResultVar):jN cx st [r1,r2,r3] =IK (el cx st r1) (el cx st r2) (el cx st r3):=by
 unfold jN IK;simp only[List.mapM_cons,List.mapM_nil,Option.bind_eq_bind,Option.pure_def];cases el cx st r1<;>cases el cx st r2<;>cases el cx st r3<;>rfl
theorem Eq (a b:C):IJ (some a) (some b) =some (.tup [a.noR,b.noR]):=rfl
theorem Er (a b c:C):IK (some a) (some b) (some c) =some (.tup [a.noR,b.noR,c.noR]):=rfl
attribute [go_sem] Sn So Eq Er
theorem N2 (p:Prop)[Decidable p]: (!decide p) =decide (¬p):=by simp
theorem Sp (P:Program)(t:TypeId)(x n:Nat)(h:x< 18446744073709551616∧n≤64):aw P .shl t (.val (nU x)) (.val (nU n)) =some (vp (.val (nU (x*2 ^ n % 18446744073709551616)))):=Yy P t x n .u64 h
attribute [go_sem] N2 Sp DS RI
theorem lK {cx:Cx}{n:Nat}{c:Code}{h:Hp}{Q:Ex→St→Prop}{α:Type}(f:α→List C)(r:Rt){k1 k2 k3:Nat}{a b:C}(h12:k2≠k1)(h13:k3≠k1)(h23:k3≠k2)
 (H:Tr cx n c ⟨A [(k1,sl f r []),(k2,a),(k3,b)],h⟩ Q):Tr cx n c ⟨A [(k1,.val (.slice none 0 0)),(k2,a),(k3,b)],h⟩ Q:=by
 refine Tr.weaken (Le.spec (l:=[(k1,sl f r []),(k2,a),(k3,b)]) ?_) H;refine ⟨?_,?_,?_,trivial⟩
 . show CLe (A _ k1) _
   unfold A;rw[if_pos rfl];exact CLe.nil _
 . show CLe (A _ k2) _
   unfold A;rw[if_neg h12];unfold A;rw[if_pos rfl];exact CLe.refl _
 . show CLe (A _ k3) _
   unfold A;rw[if_neg h13];unfold A;rw[if_neg h23];unfold A;rw[if_pos rfl];exact CLe.refl _
theorem uC (n:Nat)(l:List Int)(i:Nat)(x:Int)(r:List (Nat×C))(h:i< l.length):cO n (cl iC l) ((i,.val (.int .i64 x))::r) =cO n (cl iC (l.set i x)) r:=by
 have e:=mf (f:=iC) l i x h;rw[Nat.mul_one] at e;have e2:splice (cl iC l) i [.val (.int .i64 x)] =cl iC (l.set i x):=e;show (if [C.val (.int .i64 x)].length=1∧i+1≤(cl iC l).length then cO n (splice (cl iC l) i [.val (.int .i64 x)]) r else none) =_;rw[if_pos ⟨rfl,by rw[aD (f:=iC)];omega⟩,e2]
theorem IL (l:List Nat):cl nC l=cl iC (l.map Int.ofNat):=by
 unfold cl;rw[List.flatMap_map];rfl
theorem IM (n:Nat)(l:List Nat)(i:Nat)(x:Int)(r:List (Nat×C))(h:i< l.length):cO n (cl nC l) ((i,.val (.int .i64 x))::r) =cO n (cl iC ((l.map Int.ofNat).set i x)) r:=by
 rw[IL,uC n _ i x r (by simpa using h)]
theorem IP (n:Nat)(l:List Int)(i:Nat)(x:Nat)(r:List (Nat×C))(h:i< l.length):cO n (cl iC l) ((i,.val (nI x))::r) =cO n (cl iC (l.set i x)) r:=uC n l i x r h
theorem tkd {α:Type}(l:List α)(p:Nat):List.take (l.length - p) (List.drop p l) =List.drop p l:=by
 rw[←List.length_drop,List.take_length]
attribute [go_sem] uC IM IP tkd List.map_cons List.map_nil List.set_cons_zero
def KY (cx:Cx)(rs:List ResultVar)(c:C)(h':Hp):Ex→St→Prop
 | .exit _,_=>False
 |_,st=>jN cx st rs=some c∧st.h=h'
theorem N3 (cx:Cx)(rs:List ResultVar)(c:C)(h':Hp)(st:St):KY cx rs c h' .ret st= (jN cx st rs=some c∧st.h=h'):=rfl
theorem gc {cx:Cx} {f:Nat} {fn:Func} {code:Code} {args:List C} {h h':Hp} {c:C} {rs:List ResultVar} (hN:cx.N=fn.ntmps) (hf:cx.P.funcs[f]? =some fn) (hn: (fn.name== "runtime.NumGoroutine") =false) (hb:fn.body=some code)
 (hrs:fn.results=rs.toArray) (hlen:args.length≤fn.ntmps) (hT:Tr cx h.length code ⟨A (bj 0 args),h⟩ (KY cx rs c h')):FC cx.P cx.gl f args h c h':=by
 refine FC.of hN hf hn hb hlen ?_;refine Tr.weaken (fun t=>CLe.init args t) (hT.mono fun x st q=>?_);have key:jN cx st rs=some c∧st.h=h'→results cx fn st=some c∧((st.h.take h.length=h'∧ae h.length c=true∧∀ (b:Nat) cells,b< h.length→st.h[b]? =some (some cells)→noRefs h.length cells=true)∨st.h=h'):=fun q=>by
  refine ⟨?_,.inr q.2⟩;rw[←q.1];unfold results;rw[hrs];rcases rs with _| ⟨r,_| ⟨r2,rs⟩⟩ <;>rfl
 cases x with
 |exit k=>exact q
 |normal=>exact key q
 |ret=>exact key q
theorem Sq {P:Program}{gl:Nat→C}{f b o:Nat}{args:List C}{c:C}{h':Hp}(he:jB P f):FC P gl f (.bp b o::args) [] c h':=by
 refine ⟨he,fun G w vs W hT hg hr=>?_⟩;exfalso
 simp only[RepL] at hr;obtain ⟨v,vs',_,hv,_⟩:=hr;simp only[Rep] at hv;obtain ⟨blk,hm,_⟩:=hv;obtain ⟨⟨cells,hc⟩,_⟩:=W.dom b blk hm;simp at hc
theorem IQ (cx:Cx)(g:Nat)(az:List C)(b:Nat)(c:C)(x:Option (List C))(l:Hp):mX cx g az (some b) (some (c,x::l)) =some (.cw b (w9 cx g az b)):=rfl
theorem IR {α:Type}(f:α→List C)(r:Rt)(l:List α): (sl f r l).cells?=some [(sl f r l).noR]:=rfl
theorem BM:f9 [] =none:=rfl
attribute [go_sem] BM IR N3
def lC {α:Type}(f:α→List C)(l:List α):List C:=[sl f .no l]
instance {α:Type} (f:α→List C):Sca (lC f) (sl f .no):=⟨fun _=>rfl,fun _=>rfl,fun _=>rfl,fun _ _=>rfl⟩
instance {α:Type} (f:α→List C) [h:Nrf f]:Nrf (lC f):=⟨fun k l=>by simp only[lC,noRefs,bf,Bool.and_self]⟩
def qc {α:Type}(f:α→List C)(k n:Nat)(acc:List (List α))(parts:List (Nat×C)):Option Plan:=
 cO n (cl (lC f) acc++List.replicate (n - k) (.val (.slice none 0 0))) parts
theorem Es {α:Type}(f:α→List C)(k n:Nat)(acc:List (List α))(c:C)(l:List α)(parts:List (Nat×C))(hc:c.cells?=some [sl f .no l])(h:acc.length=k∧k< n):qc f k n acc ((k,c)::parts) =qc f (k+1) n (acc++[l]) parts:=by
 obtain ⟨h,h2⟩:=h;have hl: (cl (lC f) acc).length=k:=by rw[aD (f:=lC f),h,Nat.mul_one]
 have e:n - k= (n - (k+1))+1:=by omega
 show (match c.cells? with
  |some cs=>if cs.length=1∧k+1≤(cl (lC f) acc++List.replicate (n - k) (C.val (.slice none 0 0))).length then cO n (splice (cl (lC f) acc++List.replicate (n - k) (C.val (.slice none 0 0))) k cs) parts else none
  |none=>none) =_
 rw[hc];simp only[];rw[if_pos ⟨rfl,by rw[List.length_append,hl,List.length_replicate];omega⟩];unfold qc;congr 1
 rw[jO,e,List.replicate_succ];unfold splice;rw[List.take_append_of_le_length (by omega),List.take_of_length_le (by omega),List.append_assoc,List.append_assoc,List.length_singleton];congr 1
 rw[List.drop_append,List.drop_of_length_le (by omega),hl,show k+1 - k=1 by omega];rfl
theorem N4 {α:Type}(f:α→List C)(k n:Nat)(acc:List (List α))(l:List α)(parts:List (Nat×C))(h:acc.length=k∧k< n):qc f k n acc ((k,sl f .no l)::parts) =qc f (k+1) n (acc++[l]) parts:=
 Es f k n acc _ l parts rfl h
theorem IS {α:Type}(f:α→List C)(n:Nat)(acc:List (List α))(h:acc.length=n):qc f n n acc [] =some (vp (sl (lC f) .full acc)):=by
 unfold qc;rw[Nat.sub_self,List.replicate_zero,List.append_nil];show some (vp (.sl .full n (cl (lC f) acc))) =_;rw[←h];rfl
theorem Sr {α:Type}(f:α→List C)(u:TypeDesc)(y n:Nat)(l:List α)(parts:List (Nat×C))(hn:n≤65536):fD (some ⟨u,1,y,[.slice none 0 0]⟩) n ((0,sl f .no l)::parts) =qc f 0 n [] ((0,sl f .no l)::parts):=by
 rw[lI _ _ _ _ _ rfl hn];rfl
attribute [go_sem] N4 IS Sr List.nil_append List.cons_append
open Classical in
noncomputable def mi {α:Type}(enc:α→List C×Hp)(out:α→C×Hp)(xs:List C)(h:Hp):Option (C×Hp):=
 if q:∃a,enc a= (xs,h) then some (out q.choose) else none
theorem kl {α:Type}{enc:α→List C×Hp}{out:α→C×Hp}(hi:∀a b,enc a=enc b→out a=out b)(a:α):mi enc out (enc a).1 (enc a).2=some (out a):=by
 have h:∃b,enc b= ((enc a).1,(enc a).2):=⟨a,rfl⟩;unfold mi;rw[dif_pos h];exact congrArg some (hi _ _ h.choose_spec)
theorem Et {α:Type}{enc:α→List C×Hp}{out:α→C×Hp}{xs:List C}{h:Hp}{r:C×Hp}(e:mi enc out xs h=some r):∃a,enc a= (xs,h)∧out a=r:=by
 unfold mi at e;split at e
 . rename_i h2;exact ⟨_,h2.choose_spec,Option.some.inj e⟩
 . cases e
def extH (hp:Nat→List C→Hp→Option (C×Hp))(f:Nat)(t:List C→Hp→Option (C×Hp)):Nat→List C→Hp→Option (C×Hp):=fun g xs h=>if g=f then t xs h else hp g xs h
theorem jt {hp:Nat→List C→Hp→Option (C×Hp)}{f:Nat}{t:List C→Hp→Option (C×Hp)}(xs:List C)(h:Hp):extH hp f t f xs h=t xs h:=if_pos rfl
theorem mY {hp:Nat→List C→Hp→Option (C×Hp)}{f g:Nat}{t:List C→Hp→Option (C×Hp)}(n:g≠f)(xs:List C)(h:Hp):extH hp f t g xs h=hp g xs h:=if_neg n
theorem CxOK.extH {P:Program}{km:TypeId→Value→Bool}{gl:Nat→C}{pu:Nat→List C→Option C}{hp:Nat→List C→Hp→Option (C×Hp)}{N M:Nat}(hcx:CxOK ⟨P,N,gl,pu,hp,fun _=>false,km,true⟩)
 {α:Type} {enc:α→List C×Hp} {out:α→C×Hp} {f:Nat} (h:∀a,FC P gl f (enc a).1 (enc a).2 (out a).1 (out a).2):CxOK ⟨P,M,gl,pu,Sx.extH hp f (mi enc out),fun _=>false,km,true⟩:=by
 refine ⟨hcx.glo,hcx.pu,fun g xs k c k' hc=>?_,hcx.km⟩;by_cases hgf:g=f
 . subst hgf
   have hc':mi enc out xs k=some (c,k'):=by rw[←hc];exact (jt xs k).symm
   obtain ⟨a,e1,e2⟩:=Et hc';have:=h a;rw[e1,e2] at this;exact this
 . have hc':hp g xs k=some (c,k'):=by rw[←hc];exact (mY hgf xs k).symm
   exact hcx.hp g xs k c k' hc'
end Go.Sx
namespace Go.Sx
open Go.RowKit Go.ChangeShapes Go.WideShapes
abbrev xC (α:Type):=α→(H:Type)→DataW H→Prop
def R2 {α β:Type}(R:xC α)(S:xC β):xC (α×β):=fun a H d=> ∃x y,d= .agg [x,y]∧R a.1 H x∧S a.2 H y
def R3 {α β γ:Type}(R:xC α)(S:xC β)(T:xC γ):xC (α×β×γ):=fun a H d=> ∃x y z,d= .agg [x,y,z]∧R a.1 H x∧S a.2.1 H y∧T a.2.2 H z
structure BulkOK {H:Type} (B:DataW H→Nat) (BA:List (DataW H)→Nat):Prop where
 one:∀d,1≤B d
 str:∀s,B (.lit (.string s)) =s.length+1
 slice:∀e s,B (.slice e s) =BA e+BA s+1
 agg:∀e,B (.agg e) =BA e+1
 nil:BA [] =0
 cons:∀d r,BA (d::r) =B d+BA r
end Go.Sx
namespace Go.Sx
open Go.RowKit
def Cx.grow (cx:Cx)(l:List Nat):Cx:= { cx with gr:=fun t=>l.contains t }
section
variable {cx:Cx} {n:Nat} {st:St} {Q:Ex→St→Prop} {G:Gh} {w:World} {h:Hp}
theorem CxOK.grow (hcx:CxOK cx)(l:List Nat):CxOK (cx.grow l):=⟨hcx.glo,hcx.pu,hcx.hp,hcx.km⟩
theorem Sim.grow {a:Act}(H:Sim cx G w st a)(l:List Nat):Sim (cx.grow l) G w st a:=⟨H.defers,H.size,H.pre.ok,H.pre.env,H.pre.glob⟩
theorem Sim.ungrow {a:Act}{l:List Nat}(H:Sim (cx.grow l) G w st a):Sim cx G w st a:=⟨H.defers,H.size,H.pre.ok,H.pre.env,H.pre.glob⟩
theorem K0 (l:List Nat){c:Code}(H:Tr (cx.grow l) n c st Q):Tr cx n c st Q:=fun r hr G w a S R hR=>
 H r hr G w a (S.grow l) R fun x s G' w' a' q S' F=>hR x s G' w' a' q S'.ungrow F
theorem Eu (hcx:CxOK cx)(gs:List Nat){e:List (Nat×C)}{id:Nat}{l:List Oper}(apps:List Nat)(dsts:List (Option Nat))(z:Hp)(h1:l.filterMap ct=apps)(h2:l.map (·.dst) =dsts)(h3:ez l=z)
 (H:run (cx.grow gs) apps dsts l h.length e (h++z) [] (fun _ s=>Q .normal s)):Tr cx n (.region id l.toArray false) ⟨A e,h⟩ Q:=
 K0 gs (Tr.rg (hcx.grow gs) apps dsts z h1 h2 h3 H)
theorem zR (hcx:CxOK cx)(hm:cx.P.follows .mixedOrders=true)(gs:List Nat){e:List (Nat×C)}{id:Nat}{l:List Oper}(apps:List Nat)(dsts:List (Option Nat))(z:Hp)(h1:l.filterMap ct=apps)(h2:l.map (·.dst) =dsts)(h3:ez l=z)
 (hs:d5 l.toArray=true)
 (H:run (cx.grow gs) apps dsts l h.length e (h++z) [] (fun fs s=>fZ l.toArray fs.reverse=true∧Q .normal s)):Tr cx n (.region id l.toArray true) ⟨A e,h⟩ Q:=
 K0 gs (xd (hcx.grow gs) hm apps dsts z h1 h2 h3 hs H)
theorem Tr.virt {c:Code}(H:Tr cx n c ⟨st.env,st.h++[some []]⟩ Q):Tr cx n c st Q:=fun r hr G w a S R hR=>
 H r hr G w a ⟨S.defers,S.size,S.pre.ok.virt,S.pre.env,S.pre.glob⟩ R hR
theorem rY (b:Nat)(s:Nat×Nat):CLe (.val (.slice none 0 0)) (.gv b 0 s):=
 ⟨fun G v h=>by rw[aj] at h;simp only[Rep];exact ⟨none,0,h,Nat.le_refl _,Nat.zero_le _,.inl ⟨trivial,rfl⟩⟩,fun s n xs e=>by cases e⟩
def uD (n:Nat)(ρ:List Nat):Prop:=ρ.Nodup∧n≤ρ.length∧∀j,j< n→ρ[j]? =some j
theorem N5 {ρ:List Nat}(hρ:uD n ρ):FrmN n G w (cU ρ G) w:=
 ⟨rfl,rfl,rfl,Nat.le_refl _,fun _ _ _ x=>x,fun b k hb x=>by simp only[cU];rw[hρ.2.2 b hb];exact x,fun b k hb x=>by simp only[cU];rw[hρ.2.2 b hb];exact x,
   fun g _ ht hm=>⟨rfl,by simp only[cU,ht],fun j hj=>by
    simp only[cU] at hj
    cases hq:ρ[j]? with
    |none=>rw[hq] at hj;cases hj
    |some q=>rw[hq] at hj;exact hm q hj,fun _=>rfl⟩⟩
theorem Sim.mv (hcx:CxOK cx){a:Act}{ρ:List Nat}(hρ:ρ.Nodup)(H:Sim cx G w st a):Sim cx (cU ρ G) w ⟨fun t=>aU ρ (st.env t),jh ρ st.h⟩ a:=
 ⟨H.defers.same (fun g h=>by simp only[cU,h]) (fun g h b hb=>by
   simp only[cU] at hb
   cases hq:ρ[b]? with
   |none=>rw[hq] at hb;cases hb
   |some j=>rw[hq] at hb;exact h j hb),H.size,H.pre.ok.mv hρ,⟨fun t=>nN _ _ (H.pre.env.1 t),fun t s m xs e=>by
   obtain ⟨ys,hy⟩:=zm e;exact (H.pre.env.2 t s m ys hy).mv (.inl ⟨by simp,rfl⟩)⟩,fun g=>vh (hcx.glo g) (H.pre.glob g)⟩
theorem Tr.mv (hcx:CxOK cx){c:Code}(ρ:List Nat)(hρ:uD n ρ)(H:Tr cx n c ⟨fun t=>aU ρ (st.env t),jh ρ st.h⟩ Q):Tr cx n c st Q:=fun r hr G w a S R hR=>
 H r hr (cU ρ G) w a (S.mv hcx hρ.1) R fun x s G' w' a' q S' F=>hR x s G' w' a' q S' ((N5 hρ).transA F)
def MvQ (n:Nat)(P:St→Prop)(s:St):Prop:= ∃ρ:List Nat,uD n ρ∧P ⟨fun t=>aU ρ (s.env t),jh ρ s.h⟩
theorem rZ {α:Type}(hcx:CxOK cx)(I:α→List (Nat×C))(H:α→Hp)(ok:α→Prop)(μ:α→Nat){c:Code}(a:α)(h0:ok a)(hl:Le st.env (I a))(hh:st.h=H a)
 (hb:∀a,ok a→Tr cx n c ⟨A (I a),H a⟩ (oS (MvQ n (At I H fun a'=>ok a'∧μ a'< μ a)) Q)):Tr cx n (.loop c) st Q:=by
 refine Tr.loop (fun m s=> ∃ρ,uD n ρ∧∃a,μ a=m∧ok a∧Le (fun t=>aU ρ (s.env t)) (I a)∧jh ρ s.h=H a∨(μ a=m∧ok a∧Le s.env (I a)∧s.h=H a)) (μ a) ⟨List.range n,⟨List.nodup_range,by simp,fun j hj=>by simp[hj]⟩,a,.inr ⟨rfl,h0,hl,hh⟩⟩ ?_;rintro m s ⟨ρ,hρ,a,⟨rfl,h1,h2,h3⟩ | ⟨rfl,h1,h2,h3⟩⟩
 . refine Tr.mv hcx ρ hρ (Tr.live _ h2 ?_)
   rw[h3];refine (hb a h1).mono fun e s q=>?_
   cases e with
   |normal=>
    obtain ⟨ρ',hρ',a',⟨q1,q2⟩,q3,q4⟩:=q;exact ⟨μ a',q2,ρ',hρ',a',.inl ⟨rfl,q1,q3,q4⟩⟩
   |exit id=>exact q
   |ret=>exact q
 . refine Tr.live _ h2 ?_
   rw[h3];refine (hb a h1).mono fun e s q=>?_
   cases e with
   |normal=>
    obtain ⟨ρ',hρ',a',⟨q1,q2⟩,q3,q4⟩:=q;exact ⟨μ a',q2,ρ',hρ',a',.inl ⟨rfl,q1,q3,q4⟩⟩
   |exit id=>exact q
   |ret=>exact q
end
def dn (h:Hp)(b b':Nat):Bool:=((h.at b').isSome|| (h.mp b').isSome) && b' !=b
mutual
def cW (ok:Nat→Bool):C→C
 | .sv b o n=>if ok b=true then .sv b o n else .top
 | .gv b n s=>if ok b=true then .gv b n s else .top
 | .bp b o=>if ok b=true then .bp b o else .top
 | .mp b=>if ok b=true then .mp b else .top
 | .bt b t n=>if ok b=true then .bt b t n else .top
 | .sl r n xs=> .sl r n (scrs ok xs)
 | .kp xs=> .kp (scrs ok xs)
 | .agg xs=> .agg (scrs ok xs)
 | .tup xs=> .tup (scrs ok xs)
 | .fn f xs=> .fn f (scrs ok xs)
 | .top=> .top
 | .val v=> .val v
def scrs (ok:Nat→Bool):List C→List C
 | [] =>[]
 |x::xs=>cW ok x::scrs ok xs
end
mutual
def bh (ok:Nat→Bool)(b:Nat)(ys:List C):C→C
 | .sv b' o n=>if b'=b then (if o+n≤ys.length then .sl .no n ((ys.drop o).take n) else .top) else if ok b'=true then .sv b' o n else .top
 | .gv b' n s=>if b'=b then (if n*s.1≤ys.length then .sl .no n (ys.take (n*s.1)) else .top) else if ok b'=true then .gv b' n s else .top
 | .bp b' o=>if b'=b then .kp (ys.drop o) else if ok b'=true then .bp b' o else .top
 | .mp b'=>if b'=b then .top else if ok b'=true then .mp b' else .top
 | .bt b' t n=>if b'=b then .top else if ok b'=true then .bt b' t n else .top
 | .sl r n xs=> .sl r n (fzCs ok b ys xs)
 | .kp xs=> .kp (fzCs ok b ys xs)
 | .agg xs=> .agg (fzCs ok b ys xs)
 | .tup xs=> .tup (fzCs ok b ys xs)
 | .fn f xs=> .fn f (fzCs ok b ys xs)
 | .top=> .top
 | .val v=> .val v
def fzCs (ok:Nat→Bool)(b:Nat)(ys:List C):List C→List C
 | [] =>[]
 |x::xs=>bh ok b ys x::fzCs ok b ys xs
end
theorem r8 (ok:Nat→Bool):∀xs:List C,scrs ok xs=xs.map (cW ok)
 | [] =>rfl
 |x::xs=>by simp[scrs,r8 ok xs]
theorem kn (ok:Nat→Bool)(b:Nat)(ys:List C):∀xs:List C,fzCs ok b ys xs=xs.map (bh ok b ys)
 | [] =>rfl
 |x::xs=>by simp[fzCs,kn ok b ys xs]
def mZ (ok:Nat→Bool)(b:Nat)(ys:List C)(h:Hp):Hp:=(h.map fun o=>o.map (fzCs ok b ys)).set b (some cM)
open Classical in
noncomputable def cI (G:Gh)(w:World)(b k:Nat):Gh where
 K:=fun g o=>if G.μ b=some g∧o< k then w.cell? ⟨g,o,none⟩ else G.K g o
 μ:=fun b'=>if b'=b∨(∃g,G.μ b=some g∧G.μ b'=some g) then none else G.μ b'
 T:=G.T
 σ:=fun b'=>if b'=b∨(∃g,G.μ b=some g∧G.μ b'=some g) then none else G.σ b'
section
variable {cx:Cx} {n:Nat} {st:St} {Q:Ex→St→Prop} {G:Gh} {w:World} {h:Hp} {b:Nat} {cells:List C}
theorem zS (H:WorldOK G h w)(hb:h.at b=some cells){b':Nat}(hok:dn h b b'=true):¬ (b'=b∨(∃g,G.μ b=some g∧G.μ b'=some g)):=by
 simp only[dn,Bool.and_eq_true,Bool.or_eq_true,bne_iff_ne,ne_eq] at hok;obtain ⟨h1,h2⟩:=hok;rintro (e| ⟨g,e1,e2⟩)
 . exact h2 e
 . rcases h1 with h1|h1
   . obtain ⟨c',hc'⟩:=Option.isSome_iff_exists.1 h1
     exact h2 (H.inj b' b _ _ g hc' hb e2 e1)
   . obtain ⟨l',hl'⟩:=Option.isSome_iff_exists.1 h1
     obtain ⟨blk,es,clk,q1,q2,_⟩:=H.mpo b' l' hl';rw[e2] at q1;cases q1
     obtain ⟨cs,e,⟨fr,r2,_⟩,_⟩:=H.bx hb e1;rw[q2] at r2;cases r2
theorem qO (H:WorldOK G h w)(k:Nat): (bI G 0).Le (cI G w b k):=
 ⟨fun g o u x=>(by
   have x':G.K g o=some u:=x;simp only[cI];rw[if_neg]
   . exact x'
   . rintro ⟨e,_⟩
     rw[(H.sep b g e).1 o] at x';cases x'),fun b k x=>by simp[bI] at x,fun b k x=>by simp[bI] at x⟩
theorem eC (H:WorldOK G h w)(hb:h.at b=some cells){b' k g:Nat}(hok:dn h b b'=true)(hm:G.μ b'=some g): (cI G w b k).μ b'=some g:=by
 simp only[cI];rw[if_neg (zS H hb hok)];exact hm
theorem pd (H:WorldOK G h w)(hb:h.at b=some cells){b' k:Nat}{g:Nat×Nat}(hok:dn h b b'=true)(hm:G.σ b'=some g): (cI G w b k).σ b'=some g:=by
 simp only[cI];rw[if_neg (zS H hb hok)];exact hm
mutual
theorem uE (H:WorldOK G h w)(hb:h.at b=some cells)(k:Nat):∀ (c:C)(v:Value),Rep G c v→Rep (cI G w b k) (cW (dn h b) c) v
 | .top,_,_=>by simp[cW,Rep]
 | .val u,v,r=>by simpa[cW,Rep] using r
 | .sl r n xs,v,x=>by
   simp only[cW,Rep] at x ⊢;obtain ⟨a,cap,h1,h2,h3,h4,h5⟩:=x;refine ⟨a,cap,h1,h2,h3,h4,?_⟩;rcases h5 with h5| ⟨blk,off,ha,hk⟩
   . left;rw[h5];rfl
   . exact .inr ⟨blk,off,ha,scr_repK H hb k xs blk off hk⟩
 | .sv b' off n,v,x=>by
   simp only[cW];split
   . rename_i hok
     simp only[Rep] at x ⊢;obtain ⟨a,cap,h1,h2,h3,h4⟩:=x;exact ⟨a,cap,h1,h2,h3,fun hz=>by obtain ⟨blk,q1,q2⟩:=h4 hz;exact ⟨blk,eC H hb hok q1,q2⟩⟩
   . simp[Rep]
 | .gv b' m s,v,x=>by
   simp only[cW];split
   . rename_i hok
     simp only[Rep] at x ⊢;obtain ⟨a,cap,h1,h2,h3,h4⟩:=x;refine ⟨a,cap,h1,h2,h3,?_⟩;rcases h4 with h4| ⟨blk,q1,q2,q3⟩
     . exact .inl h4
     . exact .inr ⟨blk,eC H hb hok q1,q2,pd H hb hok q3⟩
   . simp[Rep]
 | .bp b' off,v,x=>by
   simp only[cW];split
   . rename_i hok
     simp only[Rep] at x ⊢;obtain ⟨blk,h1,h2⟩:=x;exact ⟨blk,eC H hb hok h1,h2⟩
   . simp[Rep]
 | .mp b',v,x=>by
   simp only[cW];split
   . rename_i hok
     simp only[Rep] at x ⊢;obtain ⟨blk,h1,h2⟩:=x;exact ⟨blk,eC H hb hok h1,h2⟩
   . simp[Rep]
 | .bt b' t n,v,x=>by
   simp only[cW];split
   . rename_i hok
     simp only[Rep] at x ⊢;obtain ⟨blk,h1,h2,h3⟩:=x;exact ⟨blk,eC H hb hok h1,h2,pd H hb hok h3⟩
   . simp[Rep]
 | .kp xs,v,x=>by
   simp only[cW,Rep] at x ⊢;obtain ⟨blk,off,h1,h2⟩:=x;exact ⟨blk,off,h1,scr_repK H hb k xs blk off h2⟩
 | .agg xs,v,x=>by
   simp only[cW,Rep] at x ⊢;obtain ⟨vs,h1,h2,h3⟩:=x;exact ⟨vs,h1,scr_repL H hb k xs _ h2,h3⟩
 | .tup xs,v,x=>by
   simp only[cW,Rep] at x ⊢;obtain ⟨vs,h1,h2⟩:=x;exact ⟨vs,h1,scr_repL H hb k xs _ h2⟩
 | .fn f xs,v,x=>by
   simp only[cW,Rep] at x ⊢;obtain ⟨vs,h1,h2⟩:=x;exact ⟨vs,h1,scr_repL H hb k xs _ h2⟩
theorem scr_repL (H:WorldOK G h w)(hb:h.at b=some cells)(k:Nat):∀ (xs:List C)(vs:List Value),RepL G xs vs→RepL (cI G w b k) (scrs (dn h b) xs) vs
 | [],vs,r=>by simpa[scrs,RepL] using r
 |x::xs,vs,r=>by
  simp only[scrs,RepL] at r ⊢;obtain ⟨v,vs',h1,h2,h3⟩:=r;exact ⟨v,vs',h1,uE H hb k x v h2,scr_repL H hb k xs vs' h3⟩
theorem scr_repK (H:WorldOK G h w)(hb:h.at b=some cells)(k:Nat):∀ (xs:List C)(blk off:Nat),RepK G blk off xs→RepK (cI G w b k) blk off (scrs (dn h b) xs)
 | [],_,_,_=>by simp[scrs,RepK]
 |x::xs,blk,off,r=>by
  simp only[scrs,RepK] at r ⊢;obtain ⟨⟨u,h1,h2,h3⟩,h4⟩:=r;exact ⟨⟨u,(qO H k).K _ _ _ h1,h2,uE H hb k x u h3⟩,scr_repK H hb k xs blk (off+1) h4⟩
end
def fzY (h:Hp)(b:Nat)(cells:List C):List C:=(scrs (dn h b) cells).map C.noR
theorem N6 (h:Hp)(b:Nat)(cells:List C): (fzY h b cells).length=cells.length:=by simp[fzY,r8]
theorem xD (H:WorldOK G h w)(hb:h.at b=some cells){blk:Nat}(hm:G.μ b=some blk):RepK (cI G w b cells.length) blk 0 (fzY h b cells):=by
 obtain ⟨cs,e,⟨fr,q2,_⟩,q0,q3,q4⟩:=H.bx hb hm;refine RepK.of_get fun i x hx=>?_;have hil:i< cells.length:=by have:=(List.getElem?_eq_some_iff.1 hx).1;rwa [N6] at this
 unfold fzY at hx;rw[r8,List.map_map,List.getElem?_map] at hx
 cases hc:cells[i]? with
 |none=>rw[hc] at hx;cases hx
 |some y=>
  rw[hc] at hx;simp only[Option.map_some,Option.some.injEq,Function.comp] at hx;subst hx;obtain ⟨u,hu,hr⟩:=q3.get i y hc;rw[List.getElem?_take,if_pos hil] at hu;refine ⟨u,?_,q4 u (List.mem_of_getElem? hu),(uE H hb cells.length y u hr).noR⟩;simp only[cI,Nat.zero_add];rw[if_pos ⟨hm,hil⟩];exact ul q2 _ _ hu
mutual
theorem lM (H:WorldOK G h w)(hb:h.at b=some cells):∀ (c:C)(v:Value),Rep G c v→Rep (cI G w b cells.length) (bh (dn h b) b (fzY h b cells) c) v
 | .top,_,_=>by simp[bh,Rep]
 | .val u,v,r=>by simpa[bh,Rep] using r
 | .sl r n xs,v,x=>by
   simp only[bh,Rep] at x ⊢;obtain ⟨a,cap,h1,h2,h3,h4,h5⟩:=x;refine ⟨a,cap,h1,h2,h3,h4,?_⟩;rcases h5 with h5| ⟨blk,off,ha,hk⟩
   . left;rw[h5];rfl
   . exact .inr ⟨blk,off,ha,fzC_repK H hb xs blk off hk⟩
 | .sv b' off n,v,x=>by
   simp only[bh];split
   . rename_i e
     subst e;split
     . rename_i hle
       simp only[Rep] at x ⊢;obtain ⟨a,cap,h1,h2,h3,h4⟩:=x;refine ⟨a,cap,h1,h2,h3,by simp,?_⟩;by_cases hn:n=0
       . left;subst hn;simp
       . right
         obtain ⟨blk,q1,q2⟩:=h4 hn;refine ⟨blk,off,q2,?_⟩;have:=(xD H hb q1).drop off;rw[Nat.zero_add] at this;exact this.take n
     . simp[Rep]
   . split
     . rename_i hok
       simp only[Rep] at x ⊢;obtain ⟨a,cap,h1,h2,h3,h4⟩:=x;exact ⟨a,cap,h1,h2,h3,fun hz=>by obtain ⟨blk,q1,q2⟩:=h4 hz;exact ⟨blk,eC H hb hok q1,q2⟩⟩
     . simp[Rep]
 | .gv b' m s,v,x=>by
   simp only[bh];split
   . rename_i e
     subst e;split
     . rename_i hle
       simp only[Rep] at x ⊢;obtain ⟨a,cap,h1,h2,h3,h4⟩:=x;refine ⟨a,cap,h1,h2,h3,by simp,?_⟩;rcases h4 with ⟨rfl,_⟩ | ⟨blk,q1,q2,q3⟩
       . left;simp
       . right
         exact ⟨blk,0,q2,(xD H hb q1).take _⟩
     . simp[Rep]
   . split
     . rename_i hok
       simp only[Rep] at x ⊢;obtain ⟨a,cap,h1,h2,h3,h4⟩:=x;refine ⟨a,cap,h1,h2,h3,?_⟩;rcases h4 with h4| ⟨blk,q1,q2,q3⟩
       . exact .inl h4
       . exact .inr ⟨blk,eC H hb hok q1,q2,pd H hb hok q3⟩
     . simp[Rep]
 | .mp b',v,x=>by
   simp only[bh];split
   . simp[Rep]
   . split
     . rename_i hok
       simp only[Rep] at x ⊢;obtain ⟨blk,h1,h2⟩:=x;exact ⟨blk,eC H hb hok h1,h2⟩
     . simp[Rep]
 | .bt b' t n,v,x=>by
   simp only[bh];split
   . simp[Rep]
   . split
     . rename_i hok
       simp only[Rep] at x ⊢;obtain ⟨blk,h1,h2,h3⟩:=x;exact ⟨blk,eC H hb hok h1,h2,pd H hb hok h3⟩
     . simp[Rep]
 | .bp b' off,v,x=>by
   simp only[bh];split
   . rename_i e
     subst e;simp only[Rep] at x ⊢;obtain ⟨blk,h1,h2⟩:=x;refine ⟨blk,off,h2,?_⟩;have:=(xD H hb h1).drop off
     rwa [Nat.zero_add] at this
   . split
     . rename_i hok
       simp only[Rep] at x ⊢;obtain ⟨blk,h1,h2⟩:=x;exact ⟨blk,eC H hb hok h1,h2⟩
     . simp[Rep]
 | .kp xs,v,x=>by
   simp only[bh,Rep] at x ⊢;obtain ⟨blk,off,h1,h2⟩:=x;exact ⟨blk,off,h1,fzC_repK H hb xs blk off h2⟩
 | .agg xs,v,x=>by
   simp only[bh,Rep] at x ⊢;obtain ⟨vs,h1,h2,h3⟩:=x;exact ⟨vs,h1,fzC_repL H hb xs _ h2,h3⟩
 | .tup xs,v,x=>by
   simp only[bh,Rep] at x ⊢;obtain ⟨vs,h1,h2⟩:=x;exact ⟨vs,h1,fzC_repL H hb xs _ h2⟩
 | .fn f xs,v,x=>by
   simp only[bh,Rep] at x ⊢;obtain ⟨vs,h1,h2⟩:=x;exact ⟨vs,h1,fzC_repL H hb xs _ h2⟩
theorem fzC_repL (H:WorldOK G h w)(hb:h.at b=some cells):∀ (xs:List C)(vs:List Value),RepL G xs vs→RepL (cI G w b cells.length) (fzCs (dn h b) b (fzY h b cells) xs) vs
 | [],vs,r=>by simpa[fzCs,RepL] using r
 |x::xs,vs,r=>by
  simp only[fzCs,RepL] at r ⊢;obtain ⟨v,vs',h1,h2,h3⟩:=r;exact ⟨v,vs',h1,lM H hb x v h2,fzC_repL H hb xs vs' h3⟩
theorem fzC_repK (H:WorldOK G h w)(hb:h.at b=some cells):∀ (xs:List C)(blk off:Nat),RepK G blk off xs→RepK (cI G w b cells.length) blk off (fzCs (dn h b) b (fzY h b cells) xs)
 | [],_,_,_=>by simp[fzCs,RepK]
 |x::xs,blk,off,r=>by
  simp only[fzCs,RepK] at r ⊢;obtain ⟨⟨u,h1,h2,h3⟩,h4⟩:=r;exact ⟨⟨u,(qO H _).K _ _ _ h1,h2,lM H hb x u h3⟩,fzC_repK H hb xs blk (off+1) h4⟩
end
theorem qP {ok:Nat→Bool}{ys:List C}{c:C}{s m:Nat}{xs:List C}(hc:bh ok b ys c= .sl (.own s) m xs):∃zs,c= .sl (.own s) m zs:=by
 cases c with
 |sl r k zs=>simp only[bh] at hc;cases hc;exact ⟨zs,rfl⟩
 |sv b o k=>simp only[bh] at hc;repeat' split at hc
            all_goals cases hc
 |gv b o k=>simp only[bh] at hc;repeat' split at hc
            all_goals cases hc
 |bp b o=>simp only[bh] at hc;repeat' split at hc
          all_goals cases hc
 |bt b t n=>simp only[bh] at hc;repeat' split at hc
            all_goals cases hc
 |mp b=>simp only[bh] at hc;repeat' split at hc
        all_goals cases hc
 |_=>simp only[bh] at hc;cases hc
theorem Ey {ok:Nat→Bool}{ys:List C}{c:C}{u:Value}(h:bh ok b ys c= .val u):c= .val u:=by
 cases c with
 |val v=>simp only[bh] at h;exact h
 |sv b o k=>simp only[bh] at h;repeat' split at h
            all_goals cases h
 |gv b o k=>simp only[bh] at h;repeat' split at h
            all_goals cases h
 |bp b o=>simp only[bh] at h;repeat' split at h
          all_goals cases h
 |bt b t n=>simp only[bh] at h;repeat' split at h
            all_goals cases h
 |mp b=>simp only[bh] at h;repeat' split at h
        all_goals cases h
 |_=>simp only[bh] at h;cases h
theorem Ez {ok:Nat→Bool}{ys:List C}{c:C}{xs:List C}(h:bh ok b ys c= .tup xs):∃zs,c= .tup zs∧xs=fzCs ok b ys zs:=by
 cases c with
 |tup zs=>simp only[bh] at h;cases h;exact ⟨zs,rfl,rfl⟩
 |sv b o k=>simp only[bh] at h;repeat' split at h
            all_goals cases h
 |gv b o k=>simp only[bh] at h;repeat' split at h
            all_goals cases h
 |bp b o=>simp only[bh] at h;repeat' split at h
          all_goals cases h
 |bt b t n=>simp only[bh] at h;repeat' split at h
            all_goals cases h
 |mp b=>simp only[bh] at h;repeat' split at h
        all_goals cases h
 |_=>simp only[bh] at h;cases h
theorem nZ {ok:Nat→Bool}{ys:List C}(hb:b< h.length){j:Nat}{l:List C}(hj:Hp.mp (mZ ok b ys h) j=some l):j≠b∧∃l0,h.mp j=some l0∧l=fzCs ok b ys l0:=by
 unfold mZ at hj;obtain ⟨n1,n2⟩:=gQ (h:=h.map fun o=>o.map (fzCs ok b ys)) (by simpa using hb) rfl j l hj;refine ⟨n1,?_⟩;unfold Hp.mp at n2;rw[List.getElem?_map] at n2
 cases hq:h[j]? with
 |none=>rw[hq] at n2;cases n2
 |some o=>
  rw[hq] at n2
  cases o with
  |none=>cases n2
  |some c0=>
   obtain ⟨l0,h1,h2⟩:=un (Fs:=fzCs ok b ys) (kn ok b ys) (fun _ _=>Ey) (fun _ _=>Ez) (cells:=c0) n2;exact ⟨l0,by unfold Hp.mp;rw[hq];exact h1,h2⟩
theorem xE (H:WorldOK G h w)(hb:h.at b=some cells):∀ (l:List C)(es:List MapEntry),MRep G l es→MRep (cI G w b cells.length) (fzCs (dn h b) b (fzY h b cells) l) es
 | [],_,r=>by simpa[MRep,fzCs] using r
 | [_],_,r=>by simp[MRep] at r
 |k::v::l,es,r=>by
  simp only[MRep,fzCs] at r ⊢;obtain ⟨e,es',h1,h2,h3,h4⟩:=r;exact ⟨e,es',h1,lM H hb k _ h2,lM H hb v _ h3,xE H hb l es' h4⟩
theorem kZ {ok:Nat→Bool}{ys:List C}(hb:h.at b=some cells){j:Nat}{c':List C}(hj:Hp.at (mZ ok b ys h) j=some c'):j≠b∧∃c0,h.at j=some c0∧c'=fzCs ok b ys c0:=by
 have hlen:=dI hb;unfold mZ at hj;rw[cd (by simpa using hlen)] at hj;split at hj
 . cases hj
 . rename_i hne
   refine ⟨hne,?_⟩;have h1:=fB hj;rw[List.getElem?_map] at h1
   cases hq:h[j]? with
   |none=>rw[hq] at h1;cases h1
   |some o=>
    rw[hq] at h1
    cases o with
    |none=>cases h1
    |some c0=>
     simp only[Option.map_some,Option.some.injEq] at h1;refine ⟨c0,?_,h1.symm⟩;have hl:=fv hj;unfold Hp.at;rw[hq];subst h1;show aR (some c0) =_
     cases c0 with
     |nil=>rfl
     |cons x l=>
      cases x with
      |tup xs=>simp only[fzCs,bh] at hl;cases hl
      |_=>rfl
theorem OwnRow.fz {k:Nat}{p:bB}{v:Value}{s m:Nat}(O:OwnRow G w p v s m):OwnRow (cI G w b k) w p v s m:=by
 rcases O with O| ⟨g,cap,cur,e,a1,a2,a3,a4,a5,a6⟩
 . exact .inl O
 . refine .inr ⟨g,cap,cur,e,a1,a2,a3,a4,fun o ho=>?_,fun b' hb'=>?_⟩
   . simp only[cI]
     rw[if_neg (fun x=>a6 b x.1)];exact a5 o ho
   . simp only[cI] at hb'
     split at hb'
     . cases hb'
     . exact a6 b' hb'
theorem WorldOK.fz (H:WorldOK G h w)(hb:h.at b=some cells):WorldOK (cI G w b cells.length) (mZ (dn h b) b (fzY h b cells) h) w:=by
 have hlen:=dI hb;have hμ:∀ {j blk},(cI G w b cells.length).μ j=some blk→G.μ j=some blk∧j≠b∧G.μ b≠some blk:=fun {j blk} x=>by
  simp only[cI] at x;split at x
  . cases x
  . rename_i hne
    refine ⟨x,fun e=>hne (.inl e),fun e=>hne (.inr ⟨blk,e,x⟩)⟩
 refine ⟨fun blk off u hk=>?_,fun j c' hj=>?_,fun j blk hm=>?_,fun j j' c c' blk hj hj' hm hm'=>?_,fun j blk hm=>?_,H.tlt,fun j c' off s m xs blk v hj hc hm hv=>?_,fun j z hz=>?_,fun j l hj=>?_,fun j j' l l' blk x x' y y'=>?_⟩
 . simp only[cI] at hk
   split at hk
   . exact hk
   . exact H.known blk off u hk
 . obtain ⟨hne,c0,h2,rfl⟩:=kZ hb hj
   have hok:dn h b j=true:=by simp[dn,h2,hne]
   rcases H.box j c0 h2 with ⟨hE,hE2⟩ | ⟨blk,cs,e,q1,q2,q3,q4,q5⟩
   . refine .inl ⟨by rw[hE];rfl,?_⟩
     simp only[cI];split
     . rfl
     . exact hE2
   . have hl: (fzCs (dn h b) b (fzY h b cells) c0).length=c0.length:=by rw[kn];simp
     exact .inr ⟨blk,cs,e,eC H hb hok q1,q2,by rw[hl];exact q3,by rw[hl];exact fzC_repL H hb _ _ q4,q5⟩
 . obtain ⟨h1,h2,h3⟩:=hμ hm
   obtain ⟨⟨c,hc⟩,hl⟩:=H.dom j blk h1;refine ⟨⟨fzCs (dn h b) b (fzY h b cells) c,?_⟩,hl⟩;unfold mZ;rw[List.getElem?_set,if_neg (Ne.symm h2),List.getElem?_map,hc];rfl
 . obtain ⟨h1,_,_⟩:=hμ hm
   obtain ⟨h1',_,_⟩:=hμ hm';obtain ⟨_,c0,g2,_⟩:=kZ hb hj;obtain ⟨_,c0',g2',_⟩:=kZ hb hj';exact H.inj j j' _ _ blk g2 g2' h1 h1'
 . obtain ⟨h1,h2,h3⟩:=hμ hm
   obtain ⟨s1,s2⟩:=H.sep j blk h1;refine ⟨fun o=>?_,s2⟩;simp only[cI];rw[if_neg (fun x=>h3 x.1)];exact s1 o
 . obtain ⟨h1,_,_⟩:=hμ hm
   obtain ⟨_,c0,g2,rfl⟩:=kZ hb hj;rw[kn,List.getElem?_map] at hc
   cases hq:c0[off]? with
   |none=>rw[hq] at hc;cases hc
   |some y=>
    rw[hq] at hc;simp only[Option.map_some,Option.some.injEq] at hc;obtain ⟨zs,rfl⟩:=qP hc;exact (H.own j c0 off s m zs blk v g2 hq h1 hv).fz
 . simp only[cI] at hz ⊢
   split at hz
   . cases hz
   . rename_i hne
     obtain ⟨blk,cs,e,fr,q1,q2,q3⟩:=H.siz j z hz;exact ⟨blk,cs,e,fr,by rw[if_neg hne];exact q1,q2,q3⟩
 . obtain ⟨n1,l0,n2,rfl⟩:=nZ hlen hj
   obtain ⟨blk,es,clk,q1,q2,q3⟩:=H.mpo j l0 n2;have hok:dn h b j=true:=by simp[dn,n2,n1]
   exact ⟨blk,es,clk,eC H hb hok q1,q2,xE H hb l0 _ q3⟩
 . obtain ⟨n1,l0,n2,rfl⟩:=nZ hlen x
   obtain ⟨n1',l0',n2',rfl⟩:=nZ hlen x';exact H.mpi j j' _ _ blk n2 n2' (hμ y).1 (hμ y').1
theorem zT (H:WorldOK G h w)(hb:h.at b=some cells)(hnb:n≤b)(hn:∀j,j< n→((h.at j).isSome|| (h.mp j).isSome) =true∨h[j]? =some none)(k:Nat):FrmN n G w (cI G w b k) w:=by
 have keep:∀j,j< n→∀blk,G.μ j=some blk→dn h b j=true:=fun j hj blk hm=>by
  rcases hn j hj with h1|h1
  . simp[dn,h1];omega
  . obtain ⟨⟨c,hc⟩,_⟩:=H.dom j blk hm
    rw[h1] at hc;cases hc
 refine ⟨rfl,rfl,rfl,Nat.le_refl _,fun g o u x=>(qO H k).K g o u x,fun j blk hj x=>eC H hb (keep j hj blk x) x,fun j z hj x=>?_,fun g _ ht hm=>⟨rfl,ht,fun j hj=>?_,fun o=>?_⟩⟩
 . obtain ⟨blk,_,_,_,q1,_⟩:=H.siz j z x
   exact pd H hb (keep j hj blk q1) x
 . simp only[cI] at hj
   split at hj
   . cases hj
   . exact hm j hj
 . simp only[cI]
   rw[if_neg (fun x=>hm b x.1)]
theorem Tr.fz (hcx:CxOK cx){c:Code}(b:Nat){cells:List C}(hb:st.h.at b=some cells)(hnb:n≤b)(hn:∀j,j< n→((st.h.at j).isSome|| (st.h.mp j).isSome) =true∨st.h[j]? =some none)
 (K:Tr cx n c ⟨fun t=>bh (dn st.h b) b (fzY st.h b cells) (st.env t),mZ (dn st.h b) b (fzY st.h b cells) st.h⟩ Q):Tr cx n c st Q:=fun r hr G w a S R hR=>
 K r hr (cI G w b cells.length) w a ⟨S.defers.same (fun _ h=>h) (fun g h b' hb'=>by
     simp only[cI] at hb';split at hb'
     . cases hb'
     . exact h b' hb'),S.size,S.pre.ok.fz hb,⟨fun t=>lM S.pre.ok hb _ _ (S.pre.env.1 t),fun t s m xs e=>by
     obtain ⟨ys,hy⟩:=qP e;exact (S.pre.env.2 t s m ys hy).fz⟩,fun g=>(dJ _ _ (hcx.glo g) (S.pre.glob g)).mono (qO S.pre.ok _)⟩ R
   fun x s G' w' a' q S' F=>hR x s G' w' a' q S' ((zT S.pre.ok hb hnb hn _).transA F)
end
theorem IW (v:Value): (C.val v).asSv= .val v:=rfl
theorem N7 (r:Rt)(n:Nat)(xs:List C): (C.sl r n xs).asSv= .sl r n xs:=rfl
theorem IX {α:Type}(f:α→List C)(r:Rt)(l:List α): (sl f r l).asSv=sl f r l:=rfl
theorem N8 (b o n:Nat): (C.sv b o n).asSv= .sv b o n:=rfl
theorem N9 (b n:Nat)(s:Nat×Nat): (C.gv b n s).asSv= .sv b 0 n:=rfl
theorem Oa (b o:Nat): (C.bp b o).asSv= .bp b o:=rfl
theorem Ss (b n:Nat)(s:Nat×Nat): (C.gv b n s).noR= .gv b n s:=rfl
theorem IY (b n:Nat)(s:Nat×Nat): (C.gv b n s).cells?=some [.gv b n s]:=rfl
theorem Ob (b n:Nat)(s:Nat×Nat)(l:List C):gb (.gv b n s::l) =true:=rfl
theorem IZ (cx:Cx)(l:List Nat)(d:Option Nat):kW (cx.grow l) d=nT l d:=by cases d<;>rfl
theorem Su (cx:Cx)(l:List Nat): (cx.grow l).P=cx.P:=rfl
theorem Sv (cx:Cx)(l:List Nat): (cx.grow l).N=cx.N:=rfl
theorem Oc (cx:Cx)(l:List Nat): (cx.grow l).pu=cx.pu:=rfl
theorem Od (cx:Cx)(l:List Nat): (cx.grow l).hp=cx.hp:=rfl
theorem BN (P:Program)(t:TypeId)(v:Value)(lo hi mx:Option C):nV P t (.val v) lo hi mx=d6 P t (.val v) lo hi mx:=rfl
theorem BO {α:Type}(f:α→List C)(P:Program)(t:TypeId)(r:Rt)(l:List α)(lo hi mx:Option C):nV P t (sl f r l) lo hi mx=d6 P t (sl f r l) lo hi mx:=rfl
theorem EA (P:Program)(t:TypeId)(b o:Nat)(lo hi mx:Option C):nV P t (.bp b o) lo hi mx=d6 P t (.bp b o) lo hi mx:=rfl
def sgP (P:Program)(t:Option TD)(b n:Nat)(s:Nat×Nat)(hi:Option C):Option Plan:=match t with
 |some d=>match d.u with
  | .slice e=>match td P e,cp hi n n with
    |some de,some h=>if (de.size,e) =s then some (vp (.gv b h s)) else none
    |_,_=>none
  |_=>none
 |none=>none
def rx (e:Nat)(de:Option TD)(x y:C):Option Plan:=match de with
 |none=>none
 |some de=>
  let start:Option (Nat×Option (Nat×Nat)):=match x with
   | .val (.slice none 0 0) =>some (0,none)
   | .sl .full 0 _=>some (0,none)
   | .gv b n s=>if s= (de.size,e) then some (n,some (b,n)) else none
   |_=>none
  match start with
  |none=>none
  |some (n,b) =>
   let fin (m:Nat) (ys:List C):Bool:=decide (ys.length=m*de.size∧0< de.size∧de.zero.length=de.size∧(n+m)*de.bytes≤140737488355328∧n+m≤9223372036854775807∧de.zero.all (·.oneCell') =true)
   match y with
   | .sv b' off m=>some (.ap b (de.size,e) m fun h=>(h.at b').bind fun cells=>if off+m*de.size≤cells.length∧fin m (((cells.drop off).take (m*de.size)).map C.noR) =true then some (((cells.drop off).take (m*de.size)).map C.noR) else none)
   |y=>match je y with
    |some (m,ys) =>if fin m ys=true then some (.ap b (de.size,e) m fun _=>some ys) else none
    |none=>none
def Sw (P:Program)(d d2:Option TD)(x y:C):Option Plan:=match d,d2 with
 |some d,some d2=>
  if ic d2.u=false then gP P d d2 x y else
  match d.u with
  | .slice e=>rx e (td P e) x y
  |_=>none
 |_,_=>none
theorem Yz (P:Program)(t t2:TypeId)(x y:C):ig P t t2 x y=Sw P (td P t) (td P t2) x y:=rfl
theorem YA (P:Program)(e a1 b1 a2 b2:Nat)(z1 z2:List Value)(x y:C):Sw P (some ⟨.slice e,a1,b1,z1⟩) (some ⟨.int .i64,a2,b2,z2⟩) x y=gP P ⟨.slice e,a1,b1,z1⟩ ⟨.int .i64,a2,b2,z2⟩ x y:=rfl
theorem YB (P:Program)(e e2 a1 b1 a2 b2:Nat)(z1 z2:List Value)(x y:C):Sw P (some ⟨.slice e,a1,b1,z1⟩) (some ⟨.slice e2,a2,b2,z2⟩) x y=rx e (td P e) x y:=rfl
section
variable {α:Type} (f:α→List C) {s:Nat} [hf:Cel f s] (e:Nat) (u:TypeDesc) (y:Nat) (z:List Value)
theorem EB (n:Nat)(l':List α)(hz:z.length=s)(hz1:z.all (·.oneCell') =true)(h: (n+l'.length)*y≤140737488355328∧n+l'.length≤9223372036854775807):
 decide ((cl f l').length=l'.length*s∧0< s∧z.length=s∧(n+l'.length)*y≤140737488355328∧n+l'.length≤9223372036854775807∧z.all (·.oneCell') =true) =true:=by
 simp only[decide_eq_true_eq];exact ⟨aD (f:=f) l',hf.pos,hz,h.1,h.2,hz1⟩
theorem Sy (b n:Nat)(r:Rt)(l':List α)(hz:z.length=s)(hz1:z.all (·.oneCell') =true)(h: (n+l'.length)*y≤140737488355328∧n+l'.length≤9223372036854775807):
 rx e (some ⟨u,s,y,z⟩) (.gv b n (s,e)) (sl f r l') =some (.ap (some (b,n)) (s,e) l'.length fun _=>some (cl f l')):=by
 have e:=EB f y z n l' hz hz1 h;simp only[rx,if_true,sl,je,C.sl?];rw[if_pos e]
theorem I0 (β:Type)(g:β→List C)(r:Rt)(l':List α)(hz:z.length=s)(hz1:z.all (·.oneCell') =true)(h:l'.length*y≤140737488355328∧l'.length≤9223372036854775807):
 rx e (some ⟨u,s,y,z⟩) (sl g .full []) (sl f r l') =some (.ap none (s,e) l'.length fun _=>some (cl f l')):=by
 have e:=EB f y z 0 l' hz hz1 (by simpa using h);simp only[rx,sl,je,C.sl?,List.length_nil];rw[if_pos e]
end
theorem adG (P:Program)(s t:TypeId)(c:C):lB P s t c= (match td P s,td P t with
 |some ds,some dd=>match ds.u,dd.u,c with
  | .string,.slice e,.val (.string s) =>match td P e with
    |some de=>(match de.u with
     | .int .u8=>if s.size≤140737488355328 then some (.ap none (1,e) s.size fun _=>some (s.data.toList.map iO)) else none
     |_=>none)
    |none=>none
  |_,_,_=>none
 |_,_=>none):=rfl
def Sz (P:Program)(d d2:Option TD)(c:C):Option Plan:=match d,d2 with
    |some ds,some dd=>match ds.u,dd.u,c with
     | .string,.slice e,.val (.string s) =>match td P e with
       |some de=>(match de.u with
        | .int .u8=>if s.size≤140737488355328 then some (.ap none (1,e) s.size fun _=>some (s.data.toList.map iO)) else none
        |_=>none)
       |none=>none
     |_,_,_=>none
    |_,_=>none
theorem YC (P:Program)(s t:TypeId)(c:C):lB P s t c=Sz P (td P s) (td P t) c:=rfl
def SB (e:Nat)(t:Option TD)(l:List UInt8):Option Plan:=match t with
 |some de=>(match de.u with
  | .int .u8=>if l.length≤140737488355328 then some (.ap none (1,e) l.length fun _=>some (cl bC l)) else none
  |_=>none)
 |none=>none
theorem SC (P:Program)(e a1 b1 a2 b2:Nat)(z1 z2:List Value)(l:List UInt8):Sz P (some ⟨.string,a1,b1,z1⟩) (some ⟨.slice e,a2,b2,z2⟩) (.val (str l)) =SB e (td P e) l:=by
 unfold Sz SB str;simp only[iR,List.toList_toArray,rT]
theorem SD (e a b:Nat)(z:List Value)(l:List UInt8)(h:l.length≤140737488355328):SB e (some ⟨.int .u8,a,b,z⟩) l=some (.ap none (1,e) l.length fun _=>some (cl bC l)):=if_pos h
section
variable (cx:Cx) (apps:List Nat) (dsts:List (Option Nat)) (l:List Oper) (id':Nat) (d:Option Nat) (e:List (Nat×C)) (h:Hp) (fs:List FP) (K:List FP→St→Prop)
def nR:List C→List C:=List.map C.noR
def ju (b n:Nat)(s:Nat×Nat)(m:Nat)(cs:List C)(o:Option (List C)):Prop:=match o with
 |none=>False
 |some cells=>
  if (n+m)*s.1≤cells.length∧(n≠0∨m=0) then run cx apps dsts l id' (dR d (.gv b (n+m) s) e) (h.set b (some (splice cells (n*s.1) (cs.map C.noR)))) ((4,0)::fs) K
  else if n*s.1=cells.length then run cx apps dsts l id' (dR d (.gv h.length (n+m) s) e) (h.set b (some cM)++[some ((cells++cs).map C.noR)]) ((4,0)::fs) K
  else if n=0 then run cx apps dsts l id' (dR d (.gv h.length (n+m) s) e) (h.set b (some cM)++[some (cs.map C.noR)]) ((4,0)::fs) K else False
theorem Oe (z:FP)(s:Nat×Nat)(m:Nat)(cs:List C):zx cx apps dsts l id' d e h fs K z none s m (some cs) =run cx apps dsts l id' (dR d (.gv h.length m s) e) (h++[some (nR cs)]) (z::fs) K:=rfl
theorem Of (z:FP)(b n:Nat)(s:Nat×Nat)(m:Nat)(cs:List C):zx cx apps dsts l id' d e h fs K z (some (b,n)) s m (some cs) =ju cx apps dsts l id' d e h fs K b n s m cs (h.at b):=rfl
theorem Og {α:Type}(f:α→List C){s:Nat}[hf:Cel f s](e' b n m:Nat)(xs ys:List α)(hn:n=xs.length)(hm:m=ys.length∧0< m):
 ju cx apps dsts l id' d e h fs K b n (s,e') m (cl f ys) (some (cl f xs)) =run cx apps dsts l id' (dR d (.gv h.length (xs++ys).length (s,e')) e) (h.set b (some cM)++[some (cl f (xs++ys))]) ((4,0)::fs) K:=by
 obtain ⟨hm1,hm2⟩:=hm;subst hn hm1;have hp:=hf.pos;have hl:=aD (f:=f) xs;have hml:s≤ys.length*s:=by
  have:=Nat.mul_le_mul_right s (show 1≤ys.length by omega);omega
 unfold ju;simp only[];rw[if_neg (by rw[hl,Nat.add_mul];omega),if_pos hl.symm,←jO,dL,List.length_append]
end
@[congr] theorem aas {cx:Cx} {apps:List Nat} {dsts:List (Option Nat)} {l:List Oper} {id':Nat} {d:Option Nat} {e:List (Nat×C)} {h:Hp} {fs:List FP} {K:List FP→St→Prop} {z:FP} {b:Option (Nat×Nat)} {s:Nat×Nat} {m:Nat} {p p':Option (List C)} (hp:p=p'):
   zx cx apps dsts l id' d e h fs K z b s m p=zx cx apps dsts l id' d e h fs K z b s m p':=by rw[hp]
@[congr] theorem YD {cx:Cx} {apps:List Nat} {dsts:List (Option Nat)} {l:List Oper} {id':Nat} {d:Option Nat} {e:List (Nat×C)} {h:Hp} {fs:List FP} {K:List FP→St→Prop} {b n:Nat} {s:Nat×Nat} {m:Nat} {cs:List C} {p p':Option (List C)} (hp:p=p'):
   ju cx apps dsts l id' d e h fs K b n s m cs p=ju cx apps dsts l id' d e h fs K b n s m cs p':=by rw[hp]
theorem YE {α:Type}(f:α→List C){s:Nat}[hf:Cel f s](l:List α):nR (cl f l) =cl f l:=dL l
theorem SE:nR [] = []:=rfl
theorem Oh (c:C)(l:List C):nR (c::l) =c.noR::nR l:=rfl
theorem YF (p q:Option Plan):vw true p q=p:=rfl
theorem YG (p q:Option Plan):vw false p q=q:=rfl
theorem ko (k b:Nat):dA [] k b=none:=rfl
theorem jv (x:Nat)(r:List Nat)(k b:Nat):dA (x::r) k b=if b=x then some k else dA r (k+1) b:=rfl
def I2 (n:Nat)(s:Nat×Nat):Option Nat→C
 |some j=> .gv j n s
 |none=> .top
def I3 (o n:Nat):Option Nat→C
 |some j=> .sv j o n
 |none=> .top
def I4 (o:Nat):Option Nat→C
 |some j=> .bp j o
 |none=> .top
theorem mj (ρ:List Nat)(b n:Nat)(s:Nat×Nat):aU ρ (.gv b n s) =I2 n s (dA ρ 0 b):=by simp only[aU];cases dA ρ 0 b<;>rfl
theorem ml (ρ:List Nat)(b o n:Nat):aU ρ (.sv b o n) =I3 o n (dA ρ 0 b):=by simp only[aU];cases dA ρ 0 b<;>rfl
theorem mm (ρ:List Nat)(b o:Nat):aU ρ (.bp b o) =I4 o (dA ρ 0 b):=by simp only[aU];cases dA ρ 0 b<;>rfl
theorem iu (n:Nat)(s:Nat×Nat)(j:Nat):I2 n s (some j) = .gv j n s:=rfl
theorem iw (n:Nat)(s:Nat×Nat):I2 n s none= .top:=rfl
theorem ix (o n j:Nat):I3 o n (some j) = .sv j o n:=rfl
theorem iy (o n:Nat):I3 o n none= .top:=rfl
theorem iz (o j:Nat):I4 o (some j) = .bp j o:=rfl
theorem iA (o:Nat):I4 o none= .top:=rfl
theorem kr (ρ:List Nat)(v:Value):aU ρ (.val v) = .val v:=by simp only[aU]
theorem jF (ρ:List Nat):aU ρ .top= .top:=by simp only[aU]
theorem ku (ρ:List Nat)(xs:List C):aU ρ (.agg xs) = .agg (mvCs ρ xs):=by simp only[aU]
theorem mn (ρ:List Nat)(xs:List C):aU ρ (.kp xs) = .kp (mvCs ρ xs):=by simp only[aU]
theorem mq (ρ:List Nat)(f:Nat)(xs:List C):aU ρ (.fn f xs) = .fn f (mvCs ρ xs):=by simp only[aU]
theorem jw (ρ:List Nat):mvCs ρ [] = []:=by simp only[mvCs]
theorem iB (ρ:List Nat)(c:C)(l:List C):mvCs ρ (c::l) =aU ρ c::mvCs ρ l:=by simp only[mvCs]
mutual
theorem SF (ρ:List Nat):∀c:C,ae 0 c=true→aU ρ c=c
 | .val _,_=>by simp only[aU]
 | .top,_=>by simp only[aU]
 | .agg xs,h=>by simp only[ae] at h;simp only[aU,mvCs_nr ρ xs h]
 | .tup xs,h=>by simp only[ae] at h;simp only[aU,mvCs_nr ρ xs h]
 | .kp xs,h=>by simp only[ae] at h;simp only[aU,mvCs_nr ρ xs h]
 | .sl _ _ xs,h=>by simp only[ae] at h;simp only[aU,mvCs_nr ρ xs h]
 | .fn _ xs,h=>by simp only[ae] at h;simp only[aU,mvCs_nr ρ xs h]
 | .sv _ _ _,h=>by simp[ae] at h
 | .gv _ _ _,h=>by simp[ae] at h
 | .bp _ _,h=>by simp[ae] at h
 | .bt _ _ _,h=>by simp[ae] at h
 | .mp _,h=>by simp[ae] at h
theorem mvCs_nr (ρ:List Nat):∀l:List C,noRefs 0 l=true→mvCs ρ l=l
 | [],_=>by simp only[mvCs]
 |x::xs,h=>by simp only[noRefs,Bool.and_eq_true] at h;simp only[mvCs,SF ρ x h.1,mvCs_nr ρ xs h.2]
end
theorem c9 {α:Type}(f:α→List C)[h:Nrf f](ρ:List Nat)(l:List α):mvCs ρ (cl f l) =cl f l:=mvCs_nr ρ _ (bQ f 0 l)
theorem mr {α:Type}(f:α→List C)[h:Nrf f](ρ:List Nat)(a:α):mvCs ρ (f a) =f a:=mvCs_nr ρ _ (h.nr 0 a)
theorem jR {α:Type}(f:α→List C)[h:Nrf f](ρ:List Nat)(r:Rt)(l:List α):aU ρ (sl f r l) =sl f r l:=by
 unfold sl;simp only[aU,c9]
def hget:Hp→Nat→Option (List C)
 | [],_=>none
 |o::_,0=>o
 |_::h,k+1=>hget h k
theorem zU:∀ (h:Hp)(k:Nat),(h[k]?).getD none=hget h k
 | [],_=>rfl
 |o::_,0=>rfl
 |_::h,k+1=>by rw[List.getElem?_cons_succ];exact zU h k
theorem ms (o:Option (List C))(h:Hp):hget (o::h) 0=o:=rfl
theorem mw (o:Option (List C))(h:Hp)(k:Nat):hget (o::h) (k+1) =hget h k:=rfl
def uF (ρ:List Nat)(h:Hp):List Nat→Hp
 | [] =>[]
 |x::r=>(hget h x).map (mvCs ρ)::uF ρ h r
theorem mz (ρ:List Nat)(h:Hp):jh ρ h=uF ρ h ρ:=by
 have key:∀r:List Nat,(r.map fun b=>((h[b]?).getD none).map (mvCs ρ)) =uF ρ h r:=by
  intro r
  induction r with
  |nil=>rfl
  |cons x r ih=>rw[List.map_cons,ih,zU];rfl
 exact key ρ
theorem jx (ρ:List Nat)(h:Hp):uF ρ h [] = []:=rfl
theorem iE (ρ:List Nat)(h:Hp)(x:Nat)(r:List Nat):uF ρ h (x::r) = (hget h x).map (mvCs ρ)::uF ρ h r:=rfl
def lh (g:C→C):List (Nat×C)→List (Nat×C)
 | [] =>[]
 | (k,c)::l=>(k,g c)::lh g l
theorem xG (g:C→C):lh g [] = []:=rfl
theorem qg (g:C→C)(k:Nat)(c:C)(l:List (Nat×C)):lh g ((k,c)::l) = (k,g c)::lh g l:=rfl
theorem qh (g:C→C)(hg:g .top= .top):∀l:List (Nat×C),(fun t=>g (A l t)) =A (lh g l)
 | [] =>by funext t;exact hg
 | (k,c)::l=>by
   funext t
   simp only[A,lh];split
   . rfl
   . exact congrFun (qh g hg l) t
theorem SG {cx:Cx}{n:Nat}{Q:Ex→St→Prop}{e:List (Nat×C)}{h:Hp}(hcx:CxOK cx){c:Code}(b:Nat)(cells:List C)(hb:h.at b=some cells)(hnb:n≤b)(hn:∀j,j< n→((h.at j).isSome|| (h.mp j).isSome) =true∨h[j]? =some none)
 (K:Tr cx n c ⟨A (lh (bh (dn h b) b (fzY h b cells)) e),mZ (dn h b) b (fzY h b cells) h⟩ Q):Tr cx n c ⟨A e,h⟩ Q:=by
 refine Tr.fz hcx b hb hnb hn ?_;rw[qh _ (by simp only[bh])];exact K
theorem SH {cx:Cx}{n:Nat}{Q:Ex→St→Prop}{e:List (Nat×C)}{h:Hp}(hcx:CxOK cx){c:Code}(ρ:List Nat)(hρ:uD n ρ)(K:Tr cx n c ⟨A (lh (aU ρ) e),jh ρ h⟩ Q):Tr cx n c ⟨A e,h⟩ Q:=by
 refine Tr.mv hcx ρ hρ ?_;rw[qh _ (jF ρ)];exact K
theorem Oi (ok:Nat→Bool)(b:Nat)(ys:List C)(v:Value):bh ok b ys (.val v) = .val v:=by simp only[bh]
theorem Oj (ok:Nat→Bool)(b:Nat)(ys:List C):bh ok b ys .top= .top:=by simp only[bh]
theorem Ok (ok:Nat→Bool)(b:Nat)(ys xs:List C):bh ok b ys (.agg xs) = .agg (fzCs ok b ys xs):=by simp only[bh]
theorem Ol (ok:Nat→Bool)(b:Nat)(ys xs:List C):bh ok b ys (.tup xs) = .tup (fzCs ok b ys xs):=by simp only[bh]
theorem SI (ok:Nat→Bool)(b:Nat)(ys xs:List C):bh ok b ys (.kp xs) = .kp (fzCs ok b ys xs):=by simp only[bh]
theorem SJ (ok:Nat→Bool)(b:Nat)(ys:List C)(f:Nat)(xs:List C):bh ok b ys (.fn f xs) = .fn f (fzCs ok b ys xs):=by simp only[bh]
theorem I5 (ok:Nat→Bool)(b:Nat)(ys:List C):fzCs ok b ys [] = []:=by simp only[fzCs]
theorem EC (ok:Nat→Bool)(b:Nat)(ys:List C)(x:C)(xs:List C):fzCs ok b ys (x::xs) =bh ok b ys x::fzCs ok b ys xs:=by simp only[fzCs]
mutual
theorem ED (ok:Nat→Bool)(b:Nat)(ys:List C):∀c:C,ae 0 c=true→bh ok b ys c=c
 | .val _,_=>by simp only[bh]
 | .top,_=>by simp only[bh]
 | .agg xs,h=>by simp only[ae] at h;simp only[bh,fzCs_nr ok b ys xs h]
 | .tup xs,h=>by simp only[ae] at h;simp only[bh,fzCs_nr ok b ys xs h]
 | .kp xs,h=>by simp only[ae] at h;simp only[bh,fzCs_nr ok b ys xs h]
 | .sl _ _ xs,h=>by simp only[ae] at h;simp only[bh,fzCs_nr ok b ys xs h]
 | .fn _ xs,h=>by simp only[ae] at h;simp only[bh,fzCs_nr ok b ys xs h]
 | .sv _ _ _,h=>by simp[ae] at h
 | .gv _ _ _,h=>by simp[ae] at h
 | .bp _ _,h=>by simp[ae] at h
 | .bt _ _ _,h=>by simp[ae] at h
 | .mp _,h=>by simp[ae] at h
theorem fzCs_nr (ok:Nat→Bool)(b:Nat)(ys:List C):∀l:List C,noRefs 0 l=true→fzCs ok b ys l=l
 | [],_=>by simp only[fzCs]
 |x::xs,h=>by simp only[noRefs,Bool.and_eq_true] at h;simp only[fzCs,ED ok b ys x h.1,fzCs_nr ok b ys xs h.2]
end
mutual
theorem SK (ok:Nat→Bool):∀c:C,ae 0 c=true→cW ok c=c
 | .val _,_=>by simp only[cW]
 | .top,_=>by simp only[cW]
 | .agg xs,h=>by simp only[ae] at h;simp only[cW,scrs_nr ok xs h]
 | .tup xs,h=>by simp only[ae] at h;simp only[cW,scrs_nr ok xs h]
 | .kp xs,h=>by simp only[ae] at h;simp only[cW,scrs_nr ok xs h]
 | .sl _ _ xs,h=>by simp only[ae] at h;simp only[cW,scrs_nr ok xs h]
 | .fn _ xs,h=>by simp only[ae] at h;simp only[cW,scrs_nr ok xs h]
 | .sv _ _ _,h=>by simp[ae] at h
 | .gv _ _ _,h=>by simp[ae] at h
 | .bp _ _,h=>by simp[ae] at h
 | .bt _ _ _,h=>by simp[ae] at h
 | .mp _,h=>by simp[ae] at h
theorem scrs_nr (ok:Nat→Bool):∀l:List C,noRefs 0 l=true→scrs ok l=l
 | [],_=>by simp only[scrs]
 |x::xs,h=>by simp only[noRefs,Bool.and_eq_true] at h;simp only[scrs,SK ok x h.1,scrs_nr ok xs h.2]
end
theorem kw {α:Type}(f:α→List C)[h:Nrf f](ok:Nat→Bool)(b:Nat)(ys:List C)(l:List α):fzCs ok b ys (cl f l) =cl f l:=fzCs_nr ok b ys _ (bQ f 0 l)
theorem SL {α:Type}(f:α→List C)[h:Nrf f](ok:Nat→Bool)(b:Nat)(ys:List C)(a:α):fzCs ok b ys (f a) =f a:=fzCs_nr ok b ys _ (h.nr 0 a)
theorem SN {α:Type}(f:α→List C)[h:Nrf f](ok:Nat→Bool)(b:Nat)(ys:List C)(r:Rt)(l:List α):bh ok b ys (sl f r l) =sl f r l:=by
 unfold sl;simp only[bh,kw]
theorem SO {α:Type}(f:α→List C){s:Nat}[hc:Cel f s][h:Nrf f](hp:Hp)(b:Nat)(l:List α):fzY hp b (cl f l) =cl f l:=by
 unfold fzY;rw[scrs_nr _ _ (bQ f 0 l),dL]
def jS (ys:List C)(n:Nat)(s:Nat×Nat):C:=if n*s.1≤ys.length then .sl .no n (ys.take (n*s.1)) else .top
theorem qi (ok:Nat→Bool)(b:Nat)(ys:List C)(b' n:Nat)(s:Nat×Nat):bh ok b ys (.gv b' n s) =if b'=b then jS ys n s else if ok b'=true then .gv b' n s else .top:=by simp only[bh,jS]
theorem n4 {α:Type}(f:α→List C){s:Nat}[hc:Cel f s](e:Nat)(l:List α)(n:Nat)(h:n=l.length):jS (cl f l) n (s,e) =sl f .no l:=by
 subst h;have hl:=aD (f:=f) l;unfold jS;simp only[];rw[if_pos (by omega),List.take_of_length_le (by omega)];rfl
theorem SQ (h:Hp)(b b':Nat):dn h b b'= (((h.at b').isSome|| (h.mp b').isSome) && b' !=b):=rfl
attribute [go_sem] IW N7 IX N8 N9 Oa Ss IY Ob IZ Su Sv Oc Od BN BO EA Yz YB YA Sy I0 YC SC SD Q2 Oe Of Og YE SE Oh YF YG DC Hy MS MT Hz iQ Q7 rU Ec
theorem aG {cx:Cx}{n:Nat}{Q:Ex→St→Prop}{e:List (Nat×C)}{h:Hp}{t:Nat}{x y:Code}(ht:A e t= .val (.bool true))(H:Tr cx n x ⟨A e,h⟩ Q):Tr cx n (.cond (.tmp t) x y) ⟨A e,h⟩ Q:=
 Tr.condG fun KT KF hT hF=>by rw[ga,ht,jP];exact .pos rfl (hT H)
theorem aq {cx:Cx}{n:Nat}{Q:Ex→St→Prop}{e:List (Nat×C)}{h:Hp}{t:Nat}{x y:Code}(ht:A e t= .val (.bool false))(H:Tr cx n y ⟨A e,h⟩ Q):Tr cx n (.cond (.tmp t) x y) ⟨A e,h⟩ Q:=
 Tr.condG fun KT KF hT hF=>by rw[ga,ht,jP];exact .neg rfl (hF H)
theorem af {cx:Cx}{n:Nat}{Q:Ex→St→Prop}{e:List (Nat×C)}{h:Hp}{t:Nat}{x y:Code}{p:Prop}{d:Decidable p}(ht:A e t= .val (.bool (@decide p d)))(H1:p→Tr cx n x ⟨A e,h⟩ Q)(H2:¬p→Tr cx n y ⟨A e,h⟩ Q):Tr cx n (.cond (.tmp t) x y) ⟨A e,h⟩ Q:=
 Tr.condG fun KT KF hT hF=>by rw[ga,ht,jP];exact .dec (fun q=>hT (H1 q)) (fun q=>hF (H2 q))
theorem lA {α:Type}(xs ys:List α): (xs++ys).length=xs.length+ys.length:=List.length_append
theorem lD {α:Type}(n:Nat)(xs:List α): (xs.drop n).length=xs.length - n:=List.length_drop
theorem lT {α:Type}(n:Nat)(xs:List α): (xs.take n).length=min n xs.length:=List.length_take
def ach (b:Bool)(c:C)(h:Hp):Option (C×Hp):=if b then some (c,h) else none
def SR (b:Bool)(o:Option C)(h:Hp):Option (C×Hp):=if b then (match o with
 |some c=>ach (flat c) c h
 |none=>none) else none
@[congr] theorem YH {b b':Bool} {o o':Option C} {h:Hp} (hb:b=b') (ho:b'=true→o=o'):SR b o h=SR b' o' h:=by
  subst hb
  cases b with
  |false=>rfl
  |true=>rw[ho rfl]
theorem EE {P:Program}{α:Type}(f:α→List C)(t:TypeId)(b o:Nat)(r:Rt)(l:List α)(k:Option Nat):cq P t (.bp b o) (sl f r l) k=KL (td P t) b o (sl f r l) k:=xh P t b o r _ _ k
theorem I6 {P:Program}(t:TypeId)(b o b' n:Nat)(s:Nat×Nat)(k:Option Nat):cq P t (.bp b o) (.gv b' n s) k=mW (td P t) b o (some [.gv b' n s]):=by
 unfold cq mW;cases td P t<;>rfl
attribute [go_sem] EE I6 Bool.and_false Bool.false_and
end Go.Sx
