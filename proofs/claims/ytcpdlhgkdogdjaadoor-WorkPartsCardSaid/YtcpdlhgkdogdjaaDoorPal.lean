/-
   And what follows.
-/
import Derived.Test.YtcpdlhgkdogdjaaDoorProg
import Derived.KernelRfl
import Derived.Test.YtcpdlhgkdogdjaaDoorPai
import Derived.Test.YtcpdlhgkdogdjaaDoorPaj
import Derived.Test.YtcpdlhgkdogdjaaDoorPak
set_option linter.unusedSimpArgs false
set_option linter.unusedVariables false
namespace Go.Sx
open Go.RowKit
theorem EG {α:Type}[Inhabited α](l r:List α)(t:Nat)(h:t< l.length):gt (l++r) t=gt l t:=by
 simp[gt,List.getD,List.getElem?_append_left h]
def le (m:Nat):List UInt8:=if h:m=0 then [] else UInt8.ofNat (m % 256)::le (m / 256)
termination_by m
decreasing_by omega
def be (m k:Nat):List UInt8:=(List.range k).map fun j=>UInt8.ofNat (m>>> (8*(k - 1 - j)))
theorem Ia {α β:Type}[Inhabited α][Inhabited β](l:List α)(f:α→β)(j:Nat)(h:j< l.length):gt (l.map f) j=f (gt l j):=by
 simp[gt,List.getD,List.getElem?_eq_getElem h]
end Go.Sx
namespace Go.Sx
open Go.RowKit Go.Proofs
theorem gN:td Tryd.prog 3=some ⟨.int .i64,1,8,[.int .i64 0]⟩:=by kernel_rfl
theorem OR:td Tryd.prog 4=some ⟨.bool,1,1,[.bool false]⟩:=by kernel_rfl
theorem Rv:td Tryd.prog 5=some ⟨.int .u8,1,1,[.int .u8 0]⟩:=by kernel_rfl
theorem Dj:td Tryd.prog 9=some ⟨.string,1,16,[.string ⟨#[]⟩]⟩:=by kernel_rfl
theorem Ib:td Tryd.prog 22=some ⟨.slice 3,1,24,[.slice none 0 0]⟩:=by kernel_rfl
theorem PL:td Tryd.prog 23=some ⟨.slice 29,1,24,[.slice none 0 0]⟩:=by kernel_rfl
theorem PM:td Tryd.prog 25=some ⟨.int .i64,1,8,[.int .i64 0]⟩:=by kernel_rfl
theorem An:td Tryd.prog 27=some ⟨.slice 46,1,24,[.slice none 0 0]⟩:=by kernel_rfl
theorem Ao:td Tryd.prog 29=some ⟨.struct #[Field.mk "List" 27 0 false "" "" 0],1,24,[.slice none 0 0]⟩ :=by kernel_rfl
theorem Ap:td Tryd.prog 30=some ⟨.slice 37,1,24,[.slice none 0 0]⟩:=by kernel_rfl
theorem m5:td Tryd.prog 34=some ⟨.struct #[Field.mk "By" 3 0 false "" "" 0,Field.mk "Seq" 3 1 false "" "" 8,Field.mk "K" 3 2 false "" "" 16],3,24,[.int .i64 0,.int .i64 0,.int .i64 0]⟩ :=by kernel_rfl
theorem Aq:td Tryd.prog 35=some ⟨.slice 34,1,24,[.slice none 0 0]⟩:=by kernel_rfl
theorem kW:td Tryd.prog 37=some ⟨.struct #[Field.mk "ID" 34 0 false "" "" 0,Field.mk "Form" 3 3 false "" "" 24,Field.mk "Lang" 3 4 false "" "" 32,Field.mk "Text" 9 5 false "" "" 40,Field.mk "Refs" 35 6 false "" "" 56],7,80,[.int .i64 0,.int .i64 0,.int .i64 0,.int .i64 0,.int .i64 0,.string ⟨#[]⟩,.slice none 0 0]⟩ :=by kernel_rfl
theorem Ar:td Tryd.prog 44=some ⟨.slice 48,1,24,[.slice none 0 0]⟩:=by kernel_rfl
theorem As:td Tryd.prog 46=some ⟨.struct #[Field.mk "List" 44 0 false "" "" 0],1,24,[.slice none 0 0]⟩ :=by kernel_rfl
theorem rM:td Tryd.prog 48=some ⟨.struct #[Field.mk "Title" 9 0 false "" "" 0,Field.mk "List" 30 1 false "" "" 16],2,40,[.string ⟨#[]⟩,.slice none 0 0]⟩ :=by kernel_rfl
theorem Ic:td Tryd.prog 53=some ⟨.array 3 3,3,24,List.replicate 3 (.int .i64 0)⟩:=by kernel_rfl
theorem u5:td Tryd.prog 60=some ⟨.struct #[Field.mk "Volume" 3 0 false "" "" 0,Field.mk "Article" 3 1 false "" "" 8,Field.mk "Index" 3 2 false "" "" 16],3,24,[.int .i64 0,.int .i64 0,.int .i64 0]⟩ :=by kernel_rfl
theorem PN:td Tryd.prog 72=some ⟨.slice 5,1,24,[.slice none 0 0]⟩:=by kernel_rfl
theorem PO:td Tryd.prog 97=some ⟨.slice 143,1,24,[.slice none 0 0]⟩:=by kernel_rfl
theorem No:td Tryd.prog 122=some ⟨.slice 9,1,24,[.slice none 0 0]⟩:=by kernel_rfl
theorem Dk:td Tryd.prog 143=some ⟨.struct #[Field.mk "At" 3 0 false "" "" 0,Field.mk "End" 3 1 false "" "" 8,Field.mk "Kind" 3 2 false "" "" 16],3,24,[.int .i64 0,.int .i64 0,.int .i64 0]⟩ :=by kernel_rfl
attribute [go_sem] gN OR Rv Dj Ib PL PM An Ao Ap m5 Aq kW Ar As rM Ic u5 PN PO No Dk
noncomputable def t0:Nat→C:=fun g=>if g=0 then .kp [.val (.int .i64 (-1)),.val (.int .i64 0),.val (.int .i64 0)] else .top
noncomputable def aS (gl:Nat→C)(M:Nat)(pu:Nat→List C→Option C):Cx:=⟨Tryd.prog,M,gl,pu,fun _ _ _=>none,fun _=>false,fun _ _=>false,true⟩
theorem Id (P:Program)(N:Nat)(gl:Nat→C)(pu:Nat→List C→Option C)(hp:Nat→List C→Hp→Option (C×Hp))(km:TypeId→Value→Bool)(d:Option Nat):iX ⟨P,N,gl,pu,hp,fun _=>false,km,true⟩ d=false:=by cases d<;>rfl
theorem Ie (gl:Nat→C)(M:Nat)(pu:Nat→List C→Option C)(d:Option Nat):iX (aS gl M pu) d=false:=by cases d<;>rfl
theorem Dl (gl:Nat→C)(M:Nat)(pu:Nat→List C→Option C): (aS gl M pu).P=Tryd.prog:=rfl
theorem Np (gl:Nat→C)(M:Nat)(pu:Nat→List C→Option C): (aS gl M pu).N=M:=rfl
theorem If (gl:Nat→C)(M:Nat)(pu:Nat→List C→Option C): (aS gl M pu).pu=pu:=rfl
theorem Ig (gl:Nat→C)(M:Nat)(pu:Nat→List C→Option C): (aS gl M pu).hp=fun _ _ _=>none:=rfl
theorem Ih (gl:Nat→C)(M:Nat)(pu:Nat→List C→Option C): (aS gl M pu).gl=gl:=rfl
theorem aW {gl:Nat→C}{M:Nat}{pu:Nat→List C→Option C}: (aS gl M pu).P.follows .mixedOrders=true:=by
 rw[Dl];kernel_rfl
theorem Nq:t0 0= .kp [.val (.int .i64 (-1)),.val (.int .i64 0),.val (.int .i64 0)]:=rfl
theorem xb:∀g,ag 0 (t0 g) =true:=fun g=>by
 unfold t0;split<;>rfl
attribute [go_sem] Id Ie Dl Np If Ig Ih
end Go.Sx
namespace Go.Sx
open Go.RowKit Go.Proofs
set_option maxRecDepth 10000
abbrev ID:=Int×Int×Int
def iD (x:ID):List C:=[.val (.int .i64 x.1),.val (.int .i64 x.2.1),.val (.int .i64 x.2.2)]
abbrev aN:=ID×Int×Int×List UInt8×List ID
def pC (x:aN):List C:=[.val (.int .i64 x.1.1),.val (.int .i64 x.1.2.1),.val (.int .i64 x.1.2.2),.val (.int .i64 x.2.1),.val (.int .i64 x.2.2.1),.val (str x.2.2.2.1),sl iD .no x.2.2.2.2]
abbrev fH:=List UInt8×List aN
def aC (x:fH):List C:=[.val (str x.1),sl pC .no x.2]
abbrev bY:=List fH
def vC (x:bY):List C:=[sl aC .no x]
abbrev aj:=List bY
instance:Cel iD 3:=⟨fun _=>rfl,fun _=>rfl,by decide,fun _ _=>rfl⟩
instance:Cel pC 7:=⟨fun _=>rfl,fun _=>rfl,by decide,fun _ _=>rfl⟩
instance:Cel aC 2:=⟨fun _=>rfl,fun _=>rfl,by decide,fun _ _=>rfl⟩
instance:Sca vC (sl aC .no):=⟨fun _=>rfl,fun _=>rfl,fun _=>rfl,fun _ _=>rfl⟩
instance:Fla iD:=⟨fun _=>rfl⟩
instance:Nrf pC:=⟨fun k x=>by simp only[pC,noRefs,ag,aI,Bool.and_self]⟩
instance:Nrf aC:=⟨fun k x=>by simp only[aC,noRefs,ag,aI,Bool.and_self]⟩
instance:Nrf vC:=⟨fun k x=>by simp only[vC,noRefs,ag,aI,Bool.and_self]⟩
instance:Inj iD:=⟨fun a b h=>by
 obtain ⟨a1,a2,a3⟩:=a;obtain ⟨b1,b2,b3⟩:=b
 simp only[iD,List.cons.injEq,C.val.injEq,Value.int.injEq,true_and,and_true] at h
 obtain ⟨rfl,rfl,rfl⟩:=h;rfl⟩
instance:Inj pC:=⟨fun a b h=>by
 obtain ⟨⟨a1,a2,a3⟩,a4,a5,a6,a7⟩:=a;obtain ⟨⟨b1,b2,b3⟩,b4,b5,b6,b7⟩:=b
 simp only[pC,List.cons.injEq,C.val.injEq,Value.int.injEq,bO,cg,true_and,and_true] at h
 obtain ⟨rfl,rfl,rfl,rfl,rfl,rfl,rfl⟩:=h;rfl⟩
instance:Inj aC:=⟨fun a b h=>by
 obtain ⟨a1,a2⟩:=a;obtain ⟨b1,b2⟩:=b
 simp only[aC,List.cons.injEq,C.val.injEq,bO,cg,true_and,and_true] at h
 obtain ⟨rfl,rfl⟩:=h;rfl⟩
instance:Inj vC:=⟨fun a b h=>by
 simp only[vC,List.cons.injEq,cg,and_true] at h;exact h⟩
theorem Ki (x:ID):List.map C.noR (iD x) =iD x:=rfl
theorem Kj (x:aN):List.map C.noR (pC x) =pC x:=rfl
theorem Kk (x:fH):List.map C.noR (aC x) =aC x:=rfl
theorem Kl (x:bY):List.map C.noR (vC x) =vC x:=rfl
theorem Cw (xs:List C)(k o n:Nat)(h:k≤xs.length):fv (xs.drop k) o n=fv xs (k+o) n:=by
 unfold fv
 rw[List.length_drop,List.drop_drop]
 by_cases e:k+o+n≤xs.length
 . rw[if_pos (by omega),if_pos e]
 . rw[if_neg (by omega),if_neg e]
theorem s8 {α:Type}[Inhabited α](f:α→List C){s:Nat}[hf:Cel f s](l:List α)(k j:Nat)(h:k< l.length)(hj:j< s):cK (cl f l) (k*s+j) =cK (f (gt l k)) j:=by
 unfold cK
 have e:gt l k=l[k]:=by simp[gt,List.getD,List.getElem?_eq_getElem h]
 rw[ur (f:=f) l k j hj,List.getElem?_eq_getElem h,e]
 rfl
theorem s9 {α:Type}[Inhabited α](f:α→List C){s:Nat}[hf:Cel f s](l:List α)(k j n:Nat)(h:k< l.length)(hj:j+n≤s):fv (cl f l) (k*s+j) n=fv (f (gt l k)) j n:=by
 have e:l[k]? =some (gt l k):=by simp[gt,List.getD,List.getElem?_eq_getElem h]
 have ha:=Ds (f:=f) l k _ e
 have hl:=aw (f:=f) l
 have hlf:=hf.len (gt l k)
 have hk:k*s+s≤l.length*s:=by
  have: (k+1)*s≤l.length*s:=Nat.mul_le_mul_right s h
  rw[Nat.add_mul,Nat.one_mul] at this;exact this
 unfold fv
 rw[if_pos (by rw[hl];omega),if_pos (by rw[hlf];omega)]
 congr 3
 rw[←ha,List.drop_take,List.take_take,Nat.min_eq_left (by omega),List.drop_drop]
theorem GM (k:Hp)(x y:Option (List C)): (k++[x]).set k.length y=k++[y]:=by simp
theorem Km (k:Hp)(x:Option (List C)):Hp.at (k++[x]) k.length=aQ x:=by rw[cG,if_pos rfl]
theorem GN (k:Hp)(x:Option (List C)): (k++[x])[k.length]? =some x:=by simp
theorem uI (x:aN):aQ (some (pC x)) =some (pC x):=rfl
theorem uJ (x:fH):aQ (some (aC x)) =some (aC x):=rfl
theorem uK (x:bY):aQ (some (vC x)) =some (vC x):=rfl
theorem Kn (x:ID):fv (iD x) 0 3=some (.agg (iD x)):=rfl
theorem Ko (x:aN):fv (pC x) 0 7=some (.agg (pC x)):=rfl
theorem GO (x:aN):fv (pC x) 0 3=some (.agg (iD x.1)):=rfl
theorem Kp (x:fH):fv (aC x) 0 2=some (.agg (aC x)):=rfl
theorem ix {P:Program}{t i ft k:Nat}{fs:Array Field}{fd:Field}{de:TD}{s y:Nat}{z:List Value}(h1:td P t=some ⟨.struct fs,s,y,z⟩)(h2:fs[i]? =some fd)(ht:fd.type=ft)(hk:fd.offset=k)(h3:td P ft=some de)(h4:¬de.size=0)(b o:Nat):aA P t (.bp b o) i=some (vp (.bp b (o+k))):=by
 subst ht hk
 unfold aA;simp only[h1,h2,h3,if_neg h4];rfl
theorem uL {P:Program}{t i ft k:Nat}{fs:Array Field}{fd:Field}{de:TD}{s y:Nat}{z:List Value}(h1:td P t=some ⟨.struct fs,s,y,z⟩)(h2:fs[i]? =some fd)(ht:fd.type=ft)(hk:fd.offset=k)(h3:td P ft=some de)(h4:¬de.size=0)(xs:List C)(h:k≤xs.length):aA P t (.kp xs) i=some (vp (.kp (xs.drop k))):=by
 subst ht hk
 unfold aA;simp only[h1,h2,h3,if_neg h4,if_pos h];rfl
theorem Kq (a b c:C)(x:ID):dJ [a,b,c] 0 (iD x) =some (iD x,.val undef):=rfl
theorem Kr (fs:Array Field)(b o y:Nat)(z:List Value)(x:ID):jm (some ⟨.struct fs,3,y,z⟩) b o (some (iD x)) =some (.wr b (fun cells=>dJ cells o (iD x)) none):=rfl
theorem Ks (x:ID): (iD x).length=3:=rfl
theorem Kt (a b c d e f g:C)(x:aN):dJ [a,b,c,d,e,f,g] 0 (pC x) =some (pC x,.val undef):=rfl
theorem Ku (fs:Array Field)(b o y:Nat)(z:List Value)(x:aN):jm (some ⟨.struct fs,7,y,z⟩) b o (some (pC x)) =some (.wr b (fun cells=>dJ cells o (pC x)) none):=rfl
theorem Kv (x:aN): (pC x).length=7:=rfl
theorem Kw (a b:C)(x:fH):dJ [a,b] 0 (aC x) =some (aC x,.val undef):=rfl
theorem Kx (fs:Array Field)(b o y:Nat)(z:List Value)(x:fH):jm (some ⟨.struct fs,2,y,z⟩) b o (some (aC x)) =some (.wr b (fun cells=>dJ cells o (aC x)) none):=rfl
theorem Ky (x:fH): (aC x).length=2:=rfl
theorem Kz (a:C)(x:bY):dJ [a] 0 (vC x) =some (vC x,.val undef):=rfl
theorem KA (fs:Array Field)(b o y:Nat)(z:List Value)(x:bY):jm (some ⟨.struct fs,1,y,z⟩) b o (some (vC x)) =some (.wr b (fun cells=>dJ cells o (vC x)) none):=rfl
theorem KB (x:bY): (vC x).length=1:=rfl
theorem Cy (x:ID):cK (iD x) 0=some (.val (.int .i64 x.1)):=rfl
theorem Cz (x:ID):cK (iD x) 1=some (.val (.int .i64 x.2.1)):=rfl
theorem CA (x:ID):cK (iD x) 2=some (.val (.int .i64 x.2.2)):=rfl
theorem CB (l:List ID)(k:Nat)(h:k< l.length):fv (cl iD l) (k*3) 3=some (.agg (iD (gt l k))):=by
 have:=s9 iD l k 0 3 h (by decide)
 rw[Nat.add_zero] at this
 exact this
theorem CC (x:aN):cK (pC x) 3=some (.val (.int .i64 x.2.1)):=rfl
theorem v6 (l:List aN)(k:Nat)(h:k< l.length):cK (cl pC l) (k*7+3) =some (.val (.int .i64 (gt l k).2.1)):=by
 have:=s8 pC l k 3 h (by decide)
 exact this
theorem CD (x:aN):cK (pC x) 4=some (.val (.int .i64 x.2.2.1)):=rfl
theorem CE (x:aN):cK (pC x) 5=some (.val (str x.2.2.2.1)):=rfl
theorem CF (x:aN):cK (pC x) 6=some (sl iD .no x.2.2.2.2):=rfl
theorem v7 (l:List aN)(k:Nat)(h:k< l.length):cK (cl pC l) (k*7+6) =some (sl iD .no (gt l k).2.2.2.2):=by
 have:=s8 pC l k 6 h (by decide)
 exact this
theorem CG (l:List aN)(k:Nat)(h:k< l.length):fv (cl pC l) (k*7) 7=some (.agg (pC (gt l k))):=by
 have:=s9 pC l k 0 7 h (by decide)
 rw[Nat.add_zero] at this
 exact this
theorem CH (x:fH):cK (aC x) 0=some (.val (str x.1)):=rfl
theorem v8 (l:List fH)(k:Nat)(h:k< l.length):cK (cl aC l) (k*2) =some (.val (str (gt l k).1)):=by
 have:=s8 aC l k 0 h (by decide)
 rw[Nat.add_zero] at this
 exact this
theorem CI (x:fH):cK (aC x) 1=some (sl pC .no x.2):=rfl
theorem oI (l:List fH)(k:Nat)(h:k< l.length):cK (cl aC l) (k*2+1) =some (sl pC .no (gt l k).2):=by
 have:=s8 aC l k 1 h (by decide)
 exact this
theorem CJ (l:List fH)(k:Nat)(h:k< l.length):fv (cl aC l) (k*2) 2=some (.agg (aC (gt l k))):=by
 have:=s9 aC l k 0 2 h (by decide)
 rw[Nat.add_zero] at this
 exact this
theorem CK (x:bY):cK (vC x) 0=some (sl aC .no x):=rfl
theorem oJ (l:List bY)(k:Nat)(h:k< l.length):cK (cl vC l) (k) =some (sl aC .no (gt l k)):=by
 have:=s8 vC l k 0 h (by decide)
 rw[Nat.mul_one,Nat.add_zero] at this
 exact this
theorem CL (l:List bY)(k:Nat)(h:k< l.length):fv (cl vC l) (k) 1=some (.agg (vC (gt l k))):=by
 have:=s9 vC l k 0 1 h (by decide)
 rw[Nat.mul_one,Nat.add_zero] at this
 exact this
theorem KC (a b x:C):dJ [a,b] 0 [x] =some ([x,b],.val undef):=rfl
theorem KD (a b x:C):dJ [a,b] 1 [x] =some ([a,x],.val undef):=rfl
theorem KE (a b x:C):qA [a,b] 1 x=some ([a,x],.val undef):=rfl
theorem KG (a b c x:C):dJ [a,b,c] 0 [x] =some ([x,b,c],.val undef):=rfl
theorem KH (a b c x:C):dJ [a,b,c] 1 [x] =some ([a,x,c],.val undef):=rfl
theorem KI (a b c x:C):dJ [a,b,c] 2 [x] =some ([a,b,x],.val undef):=rfl
theorem KJ (a b c d e f g x:C):dJ [a,b,c,d,e,f,g] 3 [x] =some ([a,b,c,x,e,f,g],.val undef):=rfl
theorem KK (a b c d e f g x:C):dJ [a,b,c,d,e,f,g] 4 [x] =some ([a,b,c,d,x,f,g],.val undef):=rfl
theorem KL (a b c d e f g x:C):dJ [a,b,c,d,e,f,g] 5 [x] =some ([a,b,c,d,e,x,g],.val undef):=rfl
theorem KM (a b c d e f g x:C):dJ [a,b,c,d,e,f,g] 6 [x] =some ([a,b,c,d,e,f,x],.val undef):=rfl
theorem KN (a b c d e f g x:C):qA [a,b,c,d,e,f,g] 6 x=some ([a,b,c,d,e,f,x],.val undef):=rfl
theorem KO (b o:Nat):aA Tryd.prog 34 (.bp b o) 0=some (vp (.bp b (o+0))):= @ix Tryd.prog 34 0 3 0 _ _ _ _ _ _ m5 rfl rfl rfl gN (by decide) b o
theorem KP (b o:Nat):aA Tryd.prog 34 (.bp b o) 1=some (vp (.bp b (o+1))):= @ix Tryd.prog 34 1 3 1 _ _ _ _ _ _ m5 rfl rfl rfl gN (by decide) b o
theorem KQ (b o:Nat):aA Tryd.prog 34 (.bp b o) 2=some (vp (.bp b (o+2))):= @ix Tryd.prog 34 2 3 2 _ _ _ _ _ _ m5 rfl rfl rfl gN (by decide) b o
theorem KR (b o:Nat):aA Tryd.prog 60 (.bp b o) 0=some (vp (.bp b (o+0))):= @ix Tryd.prog 60 0 3 0 _ _ _ _ _ _ u5 rfl rfl rfl gN (by decide) b o
theorem KS (b o:Nat):aA Tryd.prog 60 (.bp b o) 1=some (vp (.bp b (o+1))):= @ix Tryd.prog 60 1 3 1 _ _ _ _ _ _ u5 rfl rfl rfl gN (by decide) b o
theorem KU (b o:Nat):aA Tryd.prog 60 (.bp b o) 2=some (vp (.bp b (o+2))):= @ix Tryd.prog 60 2 3 2 _ _ _ _ _ _ u5 rfl rfl rfl gN (by decide) b o
theorem KV (b o:Nat):aA Tryd.prog 37 (.bp b o) 0=some (vp (.bp b (o+0))):= @ix Tryd.prog 37 0 34 0 _ _ _ _ _ _ kW rfl rfl rfl m5 (by decide) b o
theorem KW (b o:Nat):aA Tryd.prog 37 (.bp b o) 1=some (vp (.bp b (o+3))):= @ix Tryd.prog 37 1 3 3 _ _ _ _ _ _ kW rfl rfl rfl gN (by decide) b o
theorem KX (xs:List C)(h:3≤xs.length):aA Tryd.prog 37 (.kp xs) 1=some (vp (.kp (xs.drop 3))):= @uL Tryd.prog 37 1 3 3 _ _ _ _ _ _ kW rfl rfl rfl gN (by decide) xs h
theorem KY (b o:Nat):aA Tryd.prog 37 (.bp b o) 2=some (vp (.bp b (o+4))):= @ix Tryd.prog 37 2 3 4 _ _ _ _ _ _ kW rfl rfl rfl gN (by decide) b o
theorem K0 (b o:Nat):aA Tryd.prog 37 (.bp b o) 3=some (vp (.bp b (o+5))):= @ix Tryd.prog 37 3 9 5 _ _ _ _ _ _ kW rfl rfl rfl Dj (by decide) b o
theorem La (b o:Nat):aA Tryd.prog 37 (.bp b o) 4=some (vp (.bp b (o+6))):= @ix Tryd.prog 37 4 35 6 _ _ _ _ _ _ kW rfl rfl rfl Aq (by decide) b o
theorem Lb (xs:List C)(h:6≤xs.length):aA Tryd.prog 37 (.kp xs) 4=some (vp (.kp (xs.drop 6))):= @uL Tryd.prog 37 4 35 6 _ _ _ _ _ _ kW rfl rfl rfl Aq (by decide) xs h
theorem Lc (b o:Nat):aA Tryd.prog 46 (.bp b o) 0=some (vp (.bp b (o+0))):= @ix Tryd.prog 46 0 44 0 _ _ _ _ _ _ As rfl rfl rfl Ar (by decide) b o
theorem Ld (xs:List C)(h:0≤xs.length):aA Tryd.prog 46 (.kp xs) 0=some (vp (.kp (xs.drop 0))):= @uL Tryd.prog 46 0 44 0 _ _ _ _ _ _ As rfl rfl rfl Ar (by decide) xs h
theorem Lf (b o:Nat):aA Tryd.prog 48 (.bp b o) 0=some (vp (.bp b (o+0))):= @ix Tryd.prog 48 0 9 0 _ _ _ _ _ _ rM rfl rfl rfl Dj (by decide) b o
theorem Lg (xs:List C)(h:0≤xs.length):aA Tryd.prog 48 (.kp xs) 0=some (vp (.kp (xs.drop 0))):= @uL Tryd.prog 48 0 9 0 _ _ _ _ _ _ rM rfl rfl rfl Dj (by decide) xs h
theorem Lh (b o:Nat):aA Tryd.prog 48 (.bp b o) 1=some (vp (.bp b (o+1))):= @ix Tryd.prog 48 1 30 1 _ _ _ _ _ _ rM rfl rfl rfl Ap (by decide) b o
theorem Li (xs:List C)(h:1≤xs.length):aA Tryd.prog 48 (.kp xs) 1=some (vp (.kp (xs.drop 1))):= @uL Tryd.prog 48 1 30 1 _ _ _ _ _ _ rM rfl rfl rfl Ap (by decide) xs h
theorem Lj (b o:Nat):aA Tryd.prog 29 (.bp b o) 0=some (vp (.bp b (o+0))):= @ix Tryd.prog 29 0 27 0 _ _ _ _ _ _ Ao rfl rfl rfl An (by decide) b o
theorem Lk (xs:List C)(h:0≤xs.length):aA Tryd.prog 29 (.kp xs) 0=some (vp (.kp (xs.drop 0))):= @uL Tryd.prog 29 0 27 0 _ _ _ _ _ _ Ao rfl rfl rfl An (by decide) xs h
attribute [go_sem] Ks Kv Ky KB Kr Ku Kx KA Cw GM Km GN uI uJ uK Kn Ko GO Kp Cy Cz CA CC CD CE CF CH CI CK KO KP KQ KR KS KU KV KW KX KY K0 La Lb Lc Ld Lf Lg Lh Li Lj Lk
attribute [go_sem high] Kq Kt Kw Kz Ki Kj Kk Kl CB v6 v7 CG v8 oI CJ oJ CL KC KD KE KG KH KI KJ KK KL KM KN
end Go.Sx
namespace Go.Sx
end Go.Sx
namespace Go.Sx
structure Tok where
 a:Nat
 e:Nat
 k:Nat
deriving DecidableEq
instance:Inhabited Tok:=⟨⟨0,0,0⟩⟩
def kd (c:UInt8):Nat:=if (97≤c∧c≤122)∨(65≤c∧c≤90) then 0 else if 48≤c∧c≤57 then 1 else if c=64 then 3 else 2
theorem PU (p:UInt8→Bool)(h: (List.range 256).all (fun n=>p (UInt8.ofNat n)) =true)(c:UInt8):p c=true:=by
 have h1:=List.all_eq_true.1 h c.toNat (List.mem_range.2 c.toNat_lt)
 have h2:UInt8.ofNat c.toNat=c:=UInt8.toNat_inj.1 (by simp)
 rwa [h2] at h1
theorem N3 (c:UInt8):kd c≤3:=by
 have:=PU (fun c=>decide (kd c≤3)) (by decide+kernel) c
 simpa using this
theorem Cr:kd 32=2:=by decide
def dj (p:Nat):Option (Nat×Nat)→List UInt8→List Tok
 |none,[] =>[]
 |some (a,k),[] =>[⟨a,p,k⟩]
 |none,c::r=>if c=32 then dj (p+1) none r else dj (p+1) (some (p,kd c)) r
 |some (a,k),c::r=>if c≠32∧k< 2∧kd c=k then dj (p+1) (some (a,k)) r else
  ⟨a,p,k⟩:: (if c=32 then dj (p+1) none r else dj (p+1) (some (p,kd c)) r)
def d9 (s:List UInt8):List Tok:=dj 0 none s
def f9 (k:Nat):List UInt8→Nat
 | [] =>0
 |c::r=>if k< 2∧kd c=k then f9 k r+1 else 0
theorem ze (k:Nat):∀l,f9 k l≤l.length
 | [] =>Nat.le_refl _
 |c::r=>by
  unfold f9
  have:=ze k r
  split<;>simp<;>omega
theorem eb (p:Nat)(c:UInt8)(r:List UInt8):dj p none (c::r) =if c=32 then dj (p+1) none r else dj (p+1) (some (p,kd c)) r:=rfl
theorem s5 (a k:Nat):∀ (l:List UInt8)(p:Nat),dj p (some (a,k)) l= ⟨a,p+f9 k l,k⟩::dj (p+f9 k l) none (l.drop (f9 k l))
 | [],p=>rfl
 |c::r,p=>by
  by_cases h:k< 2∧kd c=k
  . have hc:c≠32:=by rintro rfl;rw[Cr] at h;omega
    have e1:dj p (some (a,k)) (c::r) =dj (p+1) (some (a,k)) r:=if_pos ⟨hc,h⟩
    have e2:f9 k (c::r) =f9 k r+1:=if_pos h
    rw[e1,e2,s5 a k r (p+1),List.drop_succ_cons]
    rw[show p+1+f9 k r=p+(f9 k r+1) by omega]
  . have e1:dj p (some (a,k)) (c::r) = ⟨a,p,k⟩::dj p none (c::r):=if_neg (fun h'=>h h'.2)
    have e2:f9 k (c::r) =0:=if_neg h
    rw[e1,e2]
    rfl
theorem GL (p:Nat)(c:UInt8)(r:List UInt8)(h:c≠32):dj p none (c::r) = ⟨p,p+1+f9 (kd c) r,kd c⟩::dj (p+1+f9 (kd c) r) none (r.drop (f9 (kd c) r)):=by
 rw[eb,if_neg h,s5]
theorem zf (p:Nat)(r:List UInt8):dj p none (32::r) =dj (p+1) none r:=by rw[eb,if_pos rfl]
def Lie (lo hi:Nat):List Tok→Prop
 | [] =>lo≤hi
 |t::r=>lo≤t.a∧t.a< t.e∧t.e≤hi∧t.k≤3∧Lie t.e hi r
theorem Lie.mono {lo lo' hi:Nat}(h:lo'≤lo):∀ {l:List Tok},Lie lo hi l→Lie lo' hi l
 | [],k=>Nat.le_trans h k
 |t::r,k=>⟨Nat.le_trans h k.1,k.2⟩
theorem uG:∀ (l:List UInt8)(p:Nat),Lie p (p+l.length) (dj p none l)∧∀a k,a< p→k≤3→Lie a (p+l.length) (dj p (some (a,k)) l)
 | [],p=>⟨Nat.le_refl _,fun a k h hk=>⟨Nat.le_refl _,h,Nat.le_refl _,hk,Nat.le_refl _⟩⟩
 |c::r,p=>by
  obtain ⟨i1,i2⟩:=uG r (p+1)
  have e:p+1+r.length=p+(c::r).length:=by simp;omega
  rw[e] at i1 i2
  have hno:Lie p (p+(c::r).length) (if c=32 then dj (p+1) none r else dj (p+1) (some (p,kd c)) r):=by
   split
   . exact i1.mono (by omega)
   . exact i2 p (kd c) (by omega) (N3 c)
  refine ⟨by rw[eb];exact hno,fun a k h hk=>?_⟩
  unfold dj
  split
  . exact i2 a k (by omega) hk
  . exact ⟨Nat.le_refl _,h,Nat.le_add_right _ _,hk,hno⟩
theorem Cs (s:List UInt8):Lie 0 s.length (d9 s):=by
 have:=(uG s 0).1
 rwa [Nat.zero_add] at this
theorem Lie.len {lo hi:Nat}:∀ {l:List Tok},Lie lo hi l→l.length+lo≤hi
 | [],h=>by simpa[Lie] using h
 |t::r,h=>by
  have:=h.2.2.2.2.len
  have:=h.1
  have:=h.2.1
  simp;omega
theorem kE (s:List UInt8): (d9 s).length≤s.length:=by have:=(Cs s).len;omega
theorem iK (y:List UInt8):∀ (x:List UInt8)(p:Nat)(cur:Option (Nat×Nat)),dj p cur (x++32::y) =dj p cur x++dj (p+x.length+1) none y
 | [],p,none=>by simp[dj]
 | [],p,some (a,k) =>by simp[dj]
 |c::x,p,none=>by
  rw[List.cons_append,eb,eb]
  have e:p+(c::x).length+1=p+1+x.length+1:=by simp;omega
  rw[e]
  split
  . exact iK y x (p+1) none
  . exact iK y x (p+1) (some (p,kd c))
 |c::x,p,some (a,k) =>by
  rw[List.cons_append]
  have e:p+(c::x).length+1=p+1+x.length+1:=by simp;omega
  rw[e]
  by_cases h:c≠32∧k< 2∧kd c=k
  . have e1:∀r,dj p (some (a,k)) (c::r) =dj (p+1) (some (a,k)) r:=fun r=>if_pos h
    rw[e1,e1]
    exact iK y x (p+1) (some (a,k))
  . have e1:∀r,dj p (some (a,k)) (c::r) = ⟨a,p,k⟩:: (if c=32 then dj (p+1) none r else dj (p+1) (some (p,kd c)) r):=fun r=>if_neg h
    rw[e1,e1,List.cons_append]
    congr 1
    split
    . exact iK y x (p+1) none
    . exact iK y x (p+1) (some (p,kd c))
def zg (d:Nat)(t:Tok):Tok:=⟨t.a+d,t.e+d,t.k⟩
theorem gu (d:Nat):∀ (l:List UInt8)(p:Nat)(cur:Option (Nat×Nat)),dj (p+d) (cur.map fun q=>(q.1+d,q.2)) l= (dj p cur l).map (zg d)
 | [],p,none=>rfl
 | [],p,some (a,k) =>rfl
 |c::r,p,none=>by
  rw[Option.map_none,eb,eb]
  have e:p+d+1=p+1+d:=by omega
  rw[e]
  split
  . exact gu d r (p+1) none
  . exact gu d r (p+1) (some (p,kd c))
 |c::r,p,some (a,k) =>by
  rw[Option.map_some]
  have e:p+d+1=p+1+d:=by omega
  unfold dj
  rw[e]
  split
  . exact gu d r (p+1) (some (a,k))
  . rw[List.map_cons]
    congr 1
    split
    . exact gu d r (p+1) none
    . exact gu d r (p+1) (some (p,kd c))
theorem zh (x y:List UInt8):d9 (x++32::y) =d9 x++(d9 y).map (zg (x.length+1)):=by
 unfold d9
 rw[iK]
 congr 1
 have:=gu (x.length+1) y 0 none
 rw[←this]
 rw[Option.map_none,Nat.zero_add,Nat.zero_add]
def g4 (s:List UInt8)(i:Nat):Bool:=decide (gt s i< 32) ||decide (126< gt s i) || (decide (gt s i=32) && (decide (i=0) ||decide (i+1=s.length) ||decide (gt s (i - 1) =32)))
def DM (s:List UInt8):Bool:=(List.range s.length).any (g4 s)
def dN (s:List UInt8):Nat:=if 4096< s.length then 4 else if DM s=true then 2 else if s= [] then 2 else if 256< (d9 s).length then 4 else 0
def N4 (s:List UInt8)(f t:Nat):List UInt8:=(s.drop (gt (d9 s) f).a).take ((gt (d9 s) (t - 1)).e - (gt (d9 s) f).a)
def part (s:List UInt8)(f t:Int):List UInt8:=if f< 0∨t≤f∨((d9 s).length:Int) < t then [] else N4 s f.toNat t.toNat
def mW (k:Nat)(l:List Tok):List Nat:=(List.range l.length).filter fun i=>decide ((gt l i).k=k)
def cH (s:List UInt8):List Nat:=mW 3 (d9 s)
def mi (a b:List UInt8):List UInt8:=a++32::b
end Go.Sx
namespace Go.Sx
open Go.RowKit Go.Proofs
set_option maxRecDepth 10000
def tC (t:Tok):List C:=[.val (nI t.a),.val (nI t.e),.val (nI t.k)]
instance:Cel tC 3:=⟨fun _=>rfl,fun _=>rfl,by decide,fun _ _=>rfl⟩
instance:Fla tC:=⟨fun _=>rfl⟩
instance:Inj tC:=⟨fun a b h=>by
 cases a;cases b
 simp only[tC,List.cons.injEq,C.val.injEq,cn,and_true] at h
 obtain ⟨rfl,rfl,rfl⟩:=h;rfl⟩
theorem EC (u:TypeDesc)(y:Nat)(z:List Value)(a e k:Nat)(hz:z.length=3)(h1:z.all (·.oneCell') =true):fE (some ⟨u,3,y,z⟩) 1 [(0,.agg [.val (nI a),.val (nI e),.val (nI k)])] =some (vp (sl tC .full [⟨a,e,k⟩])):=by
 unfold fE
 simp only[hz,h1]
 rw[if_pos ⟨by decide,by decide,trivial,trivial⟩]
 have hr: (bI z 1).length=3:=by simp[bI,hz]
 unfold eV
 have hc:C.cells? (.agg [.val (nI a),.val (nI e),.val (nI k)]) =some [.val (nI a),.val (nI e),.val (nI k)]:=rfl
 simp only[hc]
 rw[if_pos ⟨rfl,by omega⟩]
 unfold eV
 simp only[Option.map_some,splice,Nat.zero_mul,List.take_zero,List.nil_append,Nat.zero_add]
 rw[List.drop_of_length_le (by rw[hr];exact Nat.le_refl _),List.append_nil]
 rfl
theorem HT (t:Tok):List.map C.noR (tC t) =tC t:=rfl
theorem HU (a b c:C)(t:Tok):dJ [a,b,c] 0 (tC t) =some (tC t,.val undef):=rfl
theorem ED (u:TypeDesc)(y:Nat)(v:Value)(i:Nat)(h:v.oneCell'=true):fE (some ⟨u,1,y,[v]⟩) 1 [(0,.val (nI i))] =some (vp (sl nC .full [i])):=by
 rw[pv u y 1 v _ h (by decide)];rfl
theorem Ah (x:Tok):cK (tC x) 2=some (.val (nI x.k)):=rfl
theorem Ai (l:List Tok)(k:Nat)(h:k< l.length):fv (cl tC l) (k*3) 3=some (.agg (tC (gt l k))):=by
 have:=s9 tC l k 0 3 h (by decide)
 rw[Nat.add_zero] at this
 exact this
theorem HV (fs:Array Field)(b o y:Nat)(z:List Value)(x:Tok):jm (some ⟨.struct fs,3,y,z⟩) b o (some (tC x)) =some (.wr b (fun cells=>dJ cells o (tC x)) none):=rfl
theorem EE (b o:Nat):aA Tryd.prog 143 (.bp b o) 2=some (vp (.bp b (o+2))):= @ix Tryd.prog 143 2 3 2 _ _ _ _ _ _ Dk rfl rfl rfl gN (by decide) b o
attribute [go_sem] EC Ah HV EE
attribute [go_sem high] HT HU ED Ai
end Go.Sx
namespace Go.Sx
open Go.RowKit Go.Proofs
set_option maxRecDepth 100000
set_option maxHeartbeats 8000000
end Go.Sx
namespace Go.Sx
open Go.RowKit Go.Proofs
set_option maxRecDepth 100000
set_option maxHeartbeats 8000000
end Go.Sx
namespace Go.Sx
open Go.RowKit Go.Proofs
set_option maxRecDepth 100000
set_option maxHeartbeats 8000000
def dK (s:List UInt8)(i:Nat):Nat:=i+1+f9 (kd (gt s i)) (s.drop (i+1))
theorem o7 (s:List UInt8)(i:Nat)(h:i< s.length):i< dK s i∧dK s i≤s.length:=by
 unfold dK
 have:=ze (kd (gt s i)) (s.drop (i+1))
 rw[List.length_drop] at this
 omega
theorem HW {s:List UInt8}{k j:Nat}(hk:k< 2)(h:j< s.length)(he:kd (gt s j) =k):j+1+f9 k (s.drop (j+1)) =j+f9 k (s.drop j):=by
 have e:s[j] =gt s j:=by simp[gt,List.getD,List.getElem?_eq_getElem h]
 rw[List.drop_eq_getElem_cons h,e]
 show _=j+(if k< 2∧kd (gt s j) =k then _ else 0)
 rw[if_pos ⟨hk,he⟩];omega
theorem Aj {s:List UInt8}{k j:Nat}(h:¬ (k< 2∧j< s.length∧kd (gt s j) =k)):f9 k (s.drop j) =0:=by
 by_cases hj:j< s.length
 . have e:s[j] =gt s j:=by simp[gt,List.getD,List.getElem?_eq_getElem hj]
   rw[List.drop_eq_getElem_cons hj,e]
   show (if k< 2∧kd (gt s j) =k then _ else 0) =0
   exact if_neg (fun q=>h ⟨q.1,hj,q.2⟩)
 . rw[List.drop_of_length_le (by omega)];rfl
theorem HX {s:List UInt8}{i:Nat}(h:i< s.length)(hc:gt s i≠32):dj i none (s.drop i) = ⟨i,dK s i,kd (gt s i)⟩::dj (dK s i) none (s.drop (dK s i)):=by
 have e:s[i] =gt s i:=by simp[gt,List.getD,List.getElem?_eq_getElem h]
 rw[List.drop_eq_getElem_cons h,e,GL _ _ _ hc,List.drop_drop];rfl
theorem HY {s:List UInt8}{i:Nat}(h:i< s.length)(hc:gt s i=32):dj i none (s.drop i) =dj (i+1) none (s.drop (i+1)):=by
 have e:s[i] =gt s i:=by simp[gt,List.getD,List.getElem?_eq_getElem h]
 rw[List.drop_eq_getElem_cons h,e,hc,zf]
theorem Di {s:List UInt8}{i:Nat}{out:List Tok}(h:i< s.length)(hl:out.length≤i)(hr:out++dj i none (s.drop i) =d9 s):
 (if gt s i=32 then (i+1,out) else (dK s i,out++[⟨i,dK s i,kd (gt s i)⟩])).1≤s.length∧(if gt s i=32 then (i+1,out) else (dK s i,out++[⟨i,dK s i,kd (gt s i)⟩])).2.length≤(if gt s i=32 then (i+1,out) else (dK s i,out++[⟨i,dK s i,kd (gt s i)⟩])).1∧
 (if gt s i=32 then (i+1,out) else (dK s i,out++[⟨i,dK s i,kd (gt s i)⟩])).2++dj (if gt s i=32 then (i+1,out) else (dK s i,out++[⟨i,dK s i,kd (gt s i)⟩])).1 none (s.drop (if gt s i=32 then (i+1,out) else (dK s i,out++[⟨i,dK s i,kd (gt s i)⟩])).1) =d9 s:=by
 split
 . rename_i hb
   exact ⟨h,Nat.le_succ_of_le hl,by rw[←HY h hb];exact hr⟩
 . rename_i hb
   have:=o7 s i h
   refine ⟨this.2,?_,?_⟩
   . simp only[List.length_append,List.length_singleton];omega
   . rw[List.append_assoc,List.singleton_append,←HX h hb];exact hr
theorem w4 {s:List UInt8}{i j:Nat}(h2:kd (gt s i) < 2)(h3:j< s.length)(h:kd (gt s j) =kd (gt s i))(hr:j+f9 (kd (gt s i)) (s.drop j) =dK s i):j+1+f9 (kd (gt s i)) (s.drop (j+1)) =dK s i:=by rw[HW h2 h3 h];exact hr
theorem aL {p:Prop}(e:p:=by intro KZ hZ;simp -implicitDefEqProofs (disch:=first|omega| (simp only[go_sem,lA,lD,lT] <;>omega) |decide) only[go_sem,↓reduceIte,Nat.reduceEqDiff,reduceCtorEq,Nat.reduceLT,Nat.reduceBEq,Nat.reduceAdd,a1,a2,a3,a4,a5,a6,hy];with_reducible exact hZ):p:=e
theorem cp {p:Prop}(e:p:=by simp -implicitDefEqProofs (disch:=first|omega| (simp only[go_sem,lA,lD,lT] <;>omega) |decide) only[go_sem,↓reduceIte,Nat.reduceEqDiff,reduceCtorEq];all_goals (exact congrArg (fun z=>some (C.val (nI z))) (by unfold kd;((all_goals (try simp only[UInt8.le_iff_toNat_le,←UInt8.toNat_inj,UInt8.reduceToNat,UInt8.reduceOfNat] at a1));(all_goals (try simp only[UInt8.le_iff_toNat_le,←UInt8.toNat_inj,UInt8.reduceToNat,UInt8.reduceOfNat] at a2));(all_goals (try simp only[UInt8.le_iff_toNat_le,←UInt8.toNat_inj,UInt8.reduceToNat,UInt8.reduceOfNat] at a3));(all_goals (try simp only[UInt8.le_iff_toNat_le,←UInt8.toNat_inj,UInt8.reduceToNat,UInt8.reduceOfNat] at a4));(all_goals (try simp only[UInt8.le_iff_toNat_le,←UInt8.toNat_inj,UInt8.reduceToNat,UInt8.reduceOfNat] at a5));(all_goals (try simp only[UInt8.le_iff_toNat_le,←UInt8.toNat_inj,UInt8.reduceToNat,UInt8.reduceOfNat] at a6));(all_goals (try simp only[UInt8.le_iff_toNat_le,←UInt8.toNat_inj,UInt8.reduceToNat,UInt8.reduceOfNat] at hc25));simp only[UInt8.le_iff_toNat_le,←UInt8.toNat_inj,UInt8.reduceToNat,UInt8.reduceOfNat];(repeat' split);(all_goals first|rfl|omega))))):p:=e
theorem Nj {gl:Nat→C}{M:Nat}{pu:Nat→List C→Option C}(hcx:CxOK (aS gl M pu))(c:UInt8):FC Tryd.prog gl 100 [.val (w8 c)] [] (.val (nI (kd c))) []:=by
 replace hcx:=hcx.reN (M:=28)
 refine cf (cx:=aS gl 28 pu) (rs:=[.tmp 2]) rfl Tryd.func100 rfl rfl rfl (by simp only[List.length_cons,List.length_nil];decide) (by simp only[go_sem]) ?_
 simp only[dm,go_sem]
 have a1:=True.intro
 have a2:=True.intro
 have a3:=True.intro
 have a4:=True.intro
 have a5:=True.intro
 have a6:=True.intro
 have hy:=True.intro
 refine Tr.w hcx [] _ [] rfl rfl rfl ?_ aL
 refine af fun K1 hK1=>?_
 refine ax ?_
 by_cases a1:UInt8.ofNat 97≤c
 ·
  by_cases a2:c≤UInt8.ofNat 122
  ·
   refine Tr.w hcx [1000017] [some 4,some 5,some 6,some 7,some 8,some 9,some 10,some 11,some 12,some 13,some 14,some 15,some 16,some 17,some 3] [] rfl rfl rfl ?_ aL
   refine bh rfl ?_
   refine Tr.w hcx [] _ [] rfl rfl rfl ?_ aL
   exact Tr.ret cp
  by_cases a3:UInt8.ofNat 65≤c
  ·
   by_cases a4:c≤UInt8.ofNat 90
   ·
    refine Tr.w hcx [1000017] [some 4,some 5,some 6,some 7,some 8,some 9,some 10,some 11,some 12,some 13,some 14,some 15,some 16,some 17,some 3] [] rfl rfl rfl ?_ aL
    refine bh rfl ?_
    refine Tr.w hcx [] _ [] rfl rfl rfl ?_ aL
    exact Tr.ret cp
   refine Tr.w hcx [1000017] [some 4,some 5,some 6,some 7,some 8,some 9,some 10,some 11,some 12,some 13,some 14,some 15,some 16,some 17,some 3] [] rfl rfl rfl ?_ aL
   refine au rfl ?_
   by_cases a5:UInt8.ofNat 48≤c
   ·
    by_cases a6:c≤UInt8.ofNat 57
    ·
     refine Tr.w hcx [1000024] [some 19,some 20,some 21,some 22,some 23,some 24,some 18] [] rfl rfl rfl ?_ aL
     refine bh rfl ?_
     refine Tr.w hcx [] _ [] rfl rfl rfl ?_ aL
     exact Tr.ret cp
    refine Tr.w hcx [1000024] [some 19,some 20,some 21,some 22,some 23,some 24,some 18] [] rfl rfl rfl ?_ aL
    refine au rfl ?_
    refine Tr.w hcx [1000027] _ [] rfl rfl rfl ?_ aL
    refine Tr.k [25] ?_
    refine bc rfl (fun hc25=>?_) (fun hc25=>?_)
    ·
     refine Tr.w hcx [] _ [] rfl rfl rfl ?_ aL
     exact Tr.ret cp
    refine Tr.skip ?_
    refine hK1 _ ?_
    refine Tr.w hcx [] _ [] rfl rfl rfl ?_ aL
    exact Tr.ret cp
   refine Tr.w hcx [1000024] [some 19,some 20,some 21,some 22,some 23,some 24,some 18] [] rfl rfl rfl ?_ aL
   refine au rfl ?_
   refine Tr.w hcx [1000027] _ [] rfl rfl rfl ?_ aL
   refine Tr.k [25] ?_
   refine bc rfl (fun hc25=>?_) (fun hc25=>?_)
   ·
    refine Tr.w hcx [] _ [] rfl rfl rfl ?_ aL
    exact Tr.ret cp
   refine Tr.skip ?_
   refine hK1 _ ?_
   refine Tr.w hcx [] _ [] rfl rfl rfl ?_ aL
   exact Tr.ret cp
  refine Tr.w hcx [1000017] [some 4,some 5,some 6,some 7,some 8,some 9,some 10,some 11,some 12,some 13,some 14,some 15,some 16,some 17,some 3] [] rfl rfl rfl ?_ aL
  refine au rfl ?_
  by_cases a5:UInt8.ofNat 48≤c
  ·
   by_cases a6:c≤UInt8.ofNat 57
   ·
    refine Tr.w hcx [1000024] [some 19,some 20,some 21,some 22,some 23,some 24,some 18] [] rfl rfl rfl ?_ aL
    refine bh rfl ?_
    refine Tr.w hcx [] _ [] rfl rfl rfl ?_ aL
    exact Tr.ret cp
   refine Tr.w hcx [1000024] [some 19,some 20,some 21,some 22,some 23,some 24,some 18] [] rfl rfl rfl ?_ aL
   refine au rfl ?_
   refine Tr.w hcx [1000027] _ [] rfl rfl rfl ?_ aL
   refine Tr.k [25] ?_
   refine bc rfl (fun hc25=>?_) (fun hc25=>?_)
   ·
    refine Tr.w hcx [] _ [] rfl rfl rfl ?_ aL
    exact Tr.ret cp
   refine Tr.skip ?_
   refine hK1 _ ?_
   refine Tr.w hcx [] _ [] rfl rfl rfl ?_ aL
   exact Tr.ret cp
  refine Tr.w hcx [1000024] [some 19,some 20,some 21,some 22,some 23,some 24,some 18] [] rfl rfl rfl ?_ aL
  refine au rfl ?_
  refine Tr.w hcx [1000027] _ [] rfl rfl rfl ?_ aL
  refine Tr.k [25] ?_
  refine bc rfl (fun hc25=>?_) (fun hc25=>?_)
  ·
   refine Tr.w hcx [] _ [] rfl rfl rfl ?_ aL
   exact Tr.ret cp
  refine Tr.skip ?_
  refine hK1 _ ?_
  refine Tr.w hcx [] _ [] rfl rfl rfl ?_ aL
  exact Tr.ret cp
 by_cases a3:UInt8.ofNat 65≤c
 ·
  by_cases a4:c≤UInt8.ofNat 90
  ·
   refine Tr.w hcx [1000017] [some 4,some 5,some 6,some 7,some 8,some 9,some 10,some 11,some 12,some 13,some 14,some 15,some 16,some 17,some 3] [] rfl rfl rfl ?_ aL
   refine bh rfl ?_
   refine Tr.w hcx [] _ [] rfl rfl rfl ?_ aL
   exact Tr.ret cp
  refine Tr.w hcx [1000017] [some 4,some 5,some 6,some 7,some 8,some 9,some 10,some 11,some 12,some 13,some 14,some 15,some 16,some 17,some 3] [] rfl rfl rfl ?_ aL
  refine au rfl ?_
  by_cases a5:UInt8.ofNat 48≤c
  ·
   by_cases a6:c≤UInt8.ofNat 57
   ·
    refine Tr.w hcx [1000024] [some 19,some 20,some 21,some 22,some 23,some 24,some 18] [] rfl rfl rfl ?_ aL
    refine bh rfl ?_
    refine Tr.w hcx [] _ [] rfl rfl rfl ?_ aL
    exact Tr.ret cp
   refine Tr.w hcx [1000024] [some 19,some 20,some 21,some 22,some 23,some 24,some 18] [] rfl rfl rfl ?_ aL
   refine au rfl ?_
   refine Tr.w hcx [1000027] _ [] rfl rfl rfl ?_ aL
   refine Tr.k [25] ?_
   refine bc rfl (fun hc25=>?_) (fun hc25=>?_)
   ·
    refine Tr.w hcx [] _ [] rfl rfl rfl ?_ aL
    exact Tr.ret cp
   refine Tr.skip ?_
   refine hK1 _ ?_
   refine Tr.w hcx [] _ [] rfl rfl rfl ?_ aL
   exact Tr.ret cp
  refine Tr.w hcx [1000024] [some 19,some 20,some 21,some 22,some 23,some 24,some 18] [] rfl rfl rfl ?_ aL
  refine au rfl ?_
  refine Tr.w hcx [1000027] _ [] rfl rfl rfl ?_ aL
  refine Tr.k [25] ?_
  refine bc rfl (fun hc25=>?_) (fun hc25=>?_)
  ·
   refine Tr.w hcx [] _ [] rfl rfl rfl ?_ aL
   exact Tr.ret cp
  refine Tr.skip ?_
  refine hK1 _ ?_
  refine Tr.w hcx [] _ [] rfl rfl rfl ?_ aL
  exact Tr.ret cp
 refine Tr.w hcx [1000017] [some 4,some 5,some 6,some 7,some 8,some 9,some 10,some 11,some 12,some 13,some 14,some 15,some 16,some 17,some 3] [] rfl rfl rfl ?_ aL
 refine au rfl ?_
 by_cases a5:UInt8.ofNat 48≤c
 ·
  by_cases a6:c≤UInt8.ofNat 57
  ·
   refine Tr.w hcx [1000024] [some 19,some 20,some 21,some 22,some 23,some 24,some 18] [] rfl rfl rfl ?_ aL
   refine bh rfl ?_
   refine Tr.w hcx [] _ [] rfl rfl rfl ?_ aL
   exact Tr.ret cp
  refine Tr.w hcx [1000024] [some 19,some 20,some 21,some 22,some 23,some 24,some 18] [] rfl rfl rfl ?_ aL
  refine au rfl ?_
  refine Tr.w hcx [1000027] _ [] rfl rfl rfl ?_ aL
  refine Tr.k [25] ?_
  refine bc rfl (fun hc25=>?_) (fun hc25=>?_)
  ·
   refine Tr.w hcx [] _ [] rfl rfl rfl ?_ aL
   exact Tr.ret cp
  refine Tr.skip ?_
  refine hK1 _ ?_
  refine Tr.w hcx [] _ [] rfl rfl rfl ?_ aL
  exact Tr.ret cp
 refine Tr.w hcx [1000024] [some 19,some 20,some 21,some 22,some 23,some 24,some 18] [] rfl rfl rfl ?_ aL
 refine au rfl ?_
 refine Tr.w hcx [1000027] _ [] rfl rfl rfl ?_ aL
 refine Tr.k [25] ?_
 refine bc rfl (fun hc25=>?_) (fun hc25=>?_)
 ·
  refine Tr.w hcx [] _ [] rfl rfl rfl ?_ aL
  exact Tr.ret cp
 refine Tr.skip ?_
 refine hK1 _ ?_
 refine Tr.w hcx [] _ [] rfl rfl rfl ?_ aL
 exact Tr.ret cp
theorem eo {p:Prop}(e:p:=by intro KZ hZ;simp -implicitDefEqProofs (disch:=first|omega| (simp only[go_sem,lA,lD,lT] <;>omega) |decide) only[go_sem,↓reduceIte,Nat.reduceEqDiff,reduceCtorEq,Nat.reduceLT,Nat.reduceBEq,Nat.reduceAdd,h100,b1,b2,b3,hy];with_reducible exact hZ):p:=e
theorem kT {p:Prop}(e:p:=by simp -implicitDefEqProofs (disch:=first|omega| (simp only[go_sem,lA,lD,lT] <;>omega) |decide) only[go_sem,↓reduceIte,Nat.reduceEqDiff,reduceCtorEq];all_goals (exact congrArg (fun z=>some (C.val (nI z))) (by rw[←hr,Aj (by intro hh;first|exact b3 hh.2.1|omega)];rfl))):p:=e
theorem Py {gl:Nat→C}{M:Nat}{pu:Nat→List C→Option C}(hcx:CxOK (aS gl M pu))(h100:∀c:UInt8,pu 100 [.val (w8 c)] =some (.val (nI (kd c))))(s:List UInt8)(i:Nat)(hs:i< s.length∧s.length≤1000000):FC Tryd.prog gl 99 [.val (nI i),.kp [.val (str s)]] [] (.val (nI (dK s i))) []:=by
 replace hcx:=hcx.reN (M:=35)
 refine cf (cx:=aS gl 35 pu) (rs:=[.tmp 3]) rfl Tryd.func99 rfl rfl rfl (by simp only[List.length_cons,List.length_nil];decide) (by simp only[go_sem]) ?_
 simp only[dm,go_sem]
 have b1:=True.intro
 have b2:=True.intro
 have b3:=True.intro
 have hy:=True.intro
 refine Tr.w hcx [] _ [] rfl rfl rfl ?_ eo
 refine Tr.w hcx [1000009] _ [] rfl rfl rfl ?_ eo
 refine Tr.w hcx [1000011] _ [] rfl rfl rfl ?_ eo
 refine Tr.k [1,4,5] ?_
 refine af fun K1 hK1=>?_
 refine ax ?_
 refine bz (α:=Nat) (fun a=>[(1,?v1_1),(4,?v4_1),(5,.val (nI a))]) (fun a=>?h_1) (fun a=>i< a∧a≤s.length∧a+f9 (kd (gt s i)) (s.drop a) =dK s i) (fun a=>s.length - a) (i+1) ⟨Nat.lt_succ_self _,hs.1,rfl⟩ ?le_1 ?hh_1 ?bd_1
 case hh_1=>exact rfl
 case le_1=>exact LT
 rintro j ⟨hj,hj2,hr⟩
 refine af fun K2 hK2=>?_
 by_cases b1:kd (gt s i) =0
 ·
  by_cases b3:j< s.length
  ·
   refine Tr.w hcx [] [some 12,some 13,some 14,some 15,some 16,some 17,some 18,some 19,some 20,some 21,some 22,some 23,some 24,some 25,some 26,some 27,some 28,some 29,some 30,some 31] [] rfl rfl rfl ?_ eo
   refine bc rfl (fun hc31=>?_) (fun hc31=>?_)
   ·
    have b12:kd (gt s i) < 2:=by omega
    refine Tr.skip ?_
    refine hK2 _ ?_
    refine ax ?_
    refine Tr.v hcx [1000033] _ [] rfl rfl rfl ?_ eo
    exact ⟨j+1,⟨⟨by omega,by omega,w4 (by omega) b3 (by omega) hr⟩,O1⟩,LT,rfl⟩
   refine Tr.exit ?_
   refine hK1 _ ?_
   refine Tr.w hcx [1000034] _ [] rfl rfl rfl ?_ eo
   exact Tr.ret kT
  refine Tr.w hcx [] [some 12,some 13,some 14,some 15,some 16,some 17,some 18,some 19,some 20,some 21,some 22,some 23,some 24,some 25,some 26,some 27,some 28,some 29,some 30,some 31] [] rfl rfl rfl ?_ eo
  refine au rfl ?_
  refine Tr.exit ?_
  refine hK1 _ ?_
  refine Tr.w hcx [1000034] _ [] rfl rfl rfl ?_ eo
  exact Tr.ret kT
 by_cases b2:kd (gt s i) =1
 ·
  by_cases b3:j< s.length
  ·
   refine Tr.w hcx [] [some 12,some 13,some 14,some 15,some 16,some 17,some 18,some 19,some 20,some 21,some 22,some 23,some 24,some 25,some 26,some 27,some 28,some 29,some 30,some 31] [] rfl rfl rfl ?_ eo
   refine bc rfl (fun hc31=>?_) (fun hc31=>?_)
   ·
    have b12:kd (gt s i) < 2:=by omega
    refine Tr.skip ?_
    refine hK2 _ ?_
    refine ax ?_
    refine Tr.v hcx [1000033] _ [] rfl rfl rfl ?_ eo
    exact ⟨j+1,⟨⟨by omega,by omega,w4 (by omega) b3 (by omega) hr⟩,O1⟩,LT,rfl⟩
   refine Tr.exit ?_
   refine hK1 _ ?_
   refine Tr.w hcx [1000034] _ [] rfl rfl rfl ?_ eo
   exact Tr.ret kT
  refine Tr.w hcx [] [some 12,some 13,some 14,some 15,some 16,some 17,some 18,some 19,some 20,some 21,some 22,some 23,some 24,some 25,some 26,some 27,some 28,some 29,some 30,some 31] [] rfl rfl rfl ?_ eo
  refine au rfl ?_
  refine Tr.exit ?_
  refine hK1 _ ?_
  refine Tr.w hcx [1000034] _ [] rfl rfl rfl ?_ eo
  exact Tr.ret kT
 refine Tr.w hcx [] [some 12,some 13,some 14,some 15,some 16,some 17,some 18,some 19,some 20,some 21,some 22,some 23,some 24,some 25,some 26,some 27,some 28,some 29,some 30,some 31] [] rfl rfl rfl ?_ eo
 refine au rfl ?_
 refine Tr.exit ?_
 refine hK1 _ ?_
 refine Tr.w hcx [1000034] _ [] rfl rfl rfl ?_ eo
 exact Tr.ret kT
theorem fy {p:Prop}(e:p:=by intro KZ hZ;simp -implicitDefEqProofs (disch:=first|omega| (simp only[go_sem,lA,lD,lT] <;>omega) |decide) only[go_sem,↓reduceIte,Nat.reduceEqDiff,reduceCtorEq,Nat.reduceLT,Nat.reduceBEq,Nat.reduceAdd,h99,h100,hno,hy];with_reducible exact hZ):p:=e
theorem HZ {p:Prop}(e:p:=by simp -implicitDefEqProofs (disch:=first|omega| (simp only[go_sem,lA,lD,lT] <;>omega) |decide) only[go_sem,↓reduceIte,Nat.reduceEqDiff,reduceCtorEq];all_goals (rw[←hr];simp[dj])):p:=e
theorem Pz {gl:Nat→C}{M:Nat}{pu:Nat→List C→Option C}(hcx:CxOK (aS gl M pu))(h99:∀ (s:List UInt8) (i:Nat),i< s.length∧s.length≤1000000→pu 99 [.val (nI i),.kp [.val (str s)]] =some (.val (nI (dK s i))))(h100:∀c:UInt8,pu 100 [.val (w8 c)] =some (.val (nI (kd c))))(hno:∀ (g:Nat) (xs:List C),dh xs=true→pu g xs=none)(s:List UInt8)(hs:s.length≤1000000):FC Tryd.prog gl 62 [.val (str s)] [] (sl tC (.own 3) (d9 s)) []:=by
 replace hcx:=hcx.reN (M:=33)
 refine cf (cx:=aS gl 33 pu) (rs:=[.tmp 2]) rfl Tryd.func62 rfl rfl rfl (by simp only[List.length_cons,List.length_nil];decide) (by simp only[go_sem]) ?_
 simp only[dm,go_sem]
 have hy:=True.intro
 refine Tr.w hcx [] _ [none] rfl rfl rfl ?_ fy
 refine Tr.w hcx [] _ [] rfl rfl rfl ?_ fy
 refine Tr.w hcx [1000007] _ [] rfl rfl rfl ?_ fy
 refine af fun K1 hK1=>?_
 refine Tr.w hcx [] _ [] rfl rfl rfl ?_ fy
 refine Tr.k [1,3,4,5] ?_
 refine ax ?_
 refine bz (α:=(Nat×List Tok)) (fun a=>[(1,?v1_1),(3,sl tC (.own 3) a.2),(4,?v4_1),(5,.val (nI a.1))]) (fun a=>[some [.val (str s)]]) (fun a=>a.1≤s.length∧a.2.length≤a.1∧a.2++dj a.1 none (s.drop a.1) =d9 s) (fun a=>s.length - a.1) ((0,[])) ⟨Nat.zero_le _,Nat.le_refl _,rfl⟩ ?le_1 ?hh_1 ?bd_1
 case hh_1=>exact rfl
 case le_1=>exact LT
 rintro ⟨i,out⟩ ⟨hi,hlen,hr⟩
 dsimp only at*
 refine af fun K2 hK2=>?_
 refine Tr.w hcx [] _ [] rfl rfl rfl ?_ fy
 refine bc rfl (fun hc11=>?_) (fun hc11=>?_)
 ·
  refine Tr.skip ?_
  refine hK2 _ ?_
  refine ax ?_
  refine af fun K3 hK3=>?_
  refine Tr.w hcx [] _ [] rfl rfl rfl ?_ fy
  refine bc rfl (fun hc15=>?_) (fun hc15=>?_)
  ·
   have hc15:gt s i=32:=hc15
   refine Tr.w hcx [1000017] _ [] rfl rfl rfl ?_ fy
   refine Tr.exit ?_
   refine ⟨if gt s i=32 then (i+1,out) else (dK s i,out++[⟨i,dK s i,kd (gt s i)⟩]),⟨Di hc11 hlen hr,by have:=o7 s i hc11;split<;>simp only[] <;>omega⟩,?_,rfl⟩
   (simp only[dz,cU,↓cV,↓reduceIte,Nat.reduceEqDiff,cC,db,cE,dc,dg,and_true,true_and];all_goals (repeat' first|exact CLe.refl _|exact True.intro| (refine bS ?_;first|rfl| (simp only[List.take_zero];done)) |exact dE (by omega) |exact dA (by omega) |exact dB (by omega) |exact dD (by omega) |with_reducible apply And.intro))
   all_goals (first|rw[if_pos hc15] |rw[if_neg hc15])
   all_goals exact CLe.refl _
  have hc15:¬gt s i=32:=hc15
  refine Tr.skip ?_
  refine hK3 _ ?_
  refine Tr.w hcx [1000020] _ [] rfl rfl rfl ?_ fy
  refine Tr.k [1,3,4,5,6] ?_
  refine Tr.w hcx [21,1000030] _ [] rfl rfl rfl ?_ fy
  refine Tr.v hcx [1000031] _ [] rfl rfl rfl ?_ fy
  refine ⟨if gt s i=32 then (i+1,out) else (dK s i,out++[⟨i,dK s i,kd (gt s i)⟩]),⟨Di hc11 hlen hr,by have:=o7 s i hc11;split<;>simp only[] <;>omega⟩,?_,rfl⟩
  (simp only[dz,cU,↓cV,↓reduceIte,Nat.reduceEqDiff,cC,db,cE,dc,dg,and_true,true_and];all_goals (repeat' first|exact CLe.refl _|exact True.intro| (refine bS ?_;first|rfl| (simp only[List.take_zero];done)) |exact dE (by omega) |exact dA (by omega) |exact dB (by omega) |exact dD (by omega) |with_reducible apply And.intro))
  all_goals (first|rw[if_pos hc15] |rw[if_neg hc15])
  all_goals exact CLe.refl _
 have hie:i=s.length:=by omega
 subst hie
 rw[List.drop_length] at hr
 refine Tr.exit ?_
 refine hK1 _ ?_
 refine Tr.w hcx [1000032] _ [] rfl rfl rfl ?_ fy
 exact Tr.ret HZ
end Go.Sx
namespace Go.Sx
open Go.RowKit Go.Proofs
set_option maxRecDepth 100000
set_option maxHeartbeats 8000000
def j7 (k:Nat)(l:List Tok)(n:Nat):List Nat:=(List.range n).filter fun i=>decide ((gt l i).k=k)
theorem rK (k:Nat)(l:List Tok)(n:Nat): (j7 k l n).length≤n:=by
 unfold j7
 have:=List.length_filter_le (fun i=>decide ((gt l i).k=k)) (List.range n)
 simpa using this
theorem w5 {k:Nat}{l:List Tok}{n:Nat}(h: (gt l n).k=k):j7 k l n++[n] =j7 k l (n+1):=by
 unfold j7;rw[List.range_succ,List.filter_append];simp[h]
theorem w6 {k:Nat}{l:List Tok}{n:Nat}(h:¬ (gt l n).k=k):j7 k l n=j7 k l (n+1):=by
 unfold j7;rw[List.range_succ,List.filter_append];simp[h]
theorem fU {p:Prop}(e:p:=by intro KZ hZ;simp -implicitDefEqProofs (disch:=first|omega| (simp only[go_sem,lA,lD,lT,hb1] <;>omega) |decide) only[go_sem,↓reduceIte,Nat.reduceEqDiff,reduceCtorEq,Nat.reduceLT,Nat.reduceBEq,Nat.reduceAdd,hy];with_reducible exact hZ):p:=e
theorem H3 {p:Prop}(e:p:=by simp -implicitDefEqProofs (disch:=first|omega| (simp only[go_sem,lA,lD,lT,hb1] <;>omega) |decide) only[go_sem,↓reduceIte,Nat.reduceEqDiff,reduceCtorEq];all_goals (rfl)):p:=e
theorem PB {gl:Nat→C}{M:Nat}{pu:Nat→List C→Option C}(hcx:CxOK (aS gl M pu))(l:List Tok)(k:Nat)(hl:l.length≤1000000):FC Tryd.prog gl 63 [sl tC .no l,.val (nI k)] [] (sl nC (.own 1) (mW k l)) []:=by
 replace hcx:=hcx.reN (M:=25)
 refine cf (cx:=aS gl 25 pu) (rs:=[.tmp 4]) rfl Tryd.func63 rfl rfl rfl (by simp only[List.length_cons,List.length_nil];decide) (by simp only[go_sem]) ?_
 simp only[dm,go_sem]
 have hy:=True.intro
 have hb1:=True.intro
 refine Tr.w hcx [] _ [] rfl rfl rfl ?_ fU
 refine Tr.w hcx [] _ [] rfl rfl rfl ?_ fU
 refine af fun K1 hK1=>?_
 refine Tr.w hcx [] _ [] rfl rfl rfl ?_ fU
 refine Tr.k [1,5,8,9,10] ?_
 refine ax ?_
 refine bz (α:=Nat) (fun a=>[(1,?v1_1),(5,sl nC (.own 1) (j7 k l a)),(8,?v8_1),(9,?v9_1),(10,.val (nI a))]) (fun a=>[]) (fun a=>a≤l.length) (fun a=>l.length - a) (0) ?_ ?le_1 ?hh_1 ?bd_1
 case hh_1=>exact rfl
 case le_1=>exact LT
 . omega
 rintro i hi
 have hb1:=rK k l i
 refine Tr.w hcx [] _ [] rfl rfl rfl ?_ fU
 refine af fun K2 hK2=>?_
 refine bc rfl (fun hc11=>?_) (fun hc11=>?_)
 ·
  refine Tr.skip ?_
  refine hK2 _ ?_
  refine af fun K3 hK3=>?_
  refine ax ?_
  refine Tr.w hcx [1000012] _ [none] rfl rfl rfl ?_ fU
  refine Tr.w hcx [] _ [] rfl rfl rfl ?_ fU
  refine bc rfl (fun hc18=>?_) (fun hc18=>?_)
  ·
   refine Tr.v hcx [19,1000022] _ [] rfl rfl rfl ?_ fU
   refine hK3 _ ?_
   refine Tr.k [1,5,8,9,10] ?_
   refine ah hcx [] ?_
   refine Tr.v hcx [] _ [] rfl rfl rfl ?_ fU
   refine ⟨i+1,⟨by omega,O1⟩,?_,rfl⟩
   (simp only[dz,cU,↓cV,↓reduceIte,Nat.reduceEqDiff,cC,db,cE,dc,dg,and_true,true_and];all_goals (repeat' first|exact CLe.refl _|exact True.intro| (refine bS ?_;first|rfl| (simp only[List.take_zero];done)) |exact dE (by omega) |exact dA (by omega) |exact dB (by omega) |exact dD (by omega) |with_reducible apply And.intro))
   all_goals (refine yB ?_;first|exact w5 hc18|exact w6 hc18)
  refine Tr.skip ?_
  refine hK3 _ ?_
  refine Tr.k [1,5,8,9,10] ?_
  refine ah hcx [] ?_
  refine Tr.v hcx [] _ [] rfl rfl rfl ?_ fU
  refine ⟨i+1,⟨by omega,O1⟩,?_,rfl⟩
  (simp only[dz,cU,↓cV,↓reduceIte,Nat.reduceEqDiff,cC,db,cE,dc,dg,and_true,true_and];all_goals (repeat' first|exact CLe.refl _|exact True.intro| (refine bS ?_;first|rfl| (simp only[List.take_zero];done)) |exact dE (by omega) |exact dA (by omega) |exact dB (by omega) |exact dD (by omega) |with_reducible apply And.intro))
  all_goals (refine yB ?_;first|exact w5 hc18|exact w6 hc18)
 obtain rfl:i=l.length:=by omega
 refine Tr.exit ?_
 refine hK1 _ ?_
 refine Tr.w hcx [1000024] _ [] rfl rfl rfl ?_ fU
 exact Tr.ret H3
end Go.Sx
namespace Go.Sx
open Go.RowKit Go.Proofs
set_option maxRecDepth 100000
set_option maxHeartbeats 8000000
theorem EF (k:Nat)(l:List Tok): (mW k l).length≤l.length:=rK k l l.length
theorem w7 {p:Prop}(e:p:=by intro KZ hZ;simp -implicitDefEqProofs (disch:=first|omega| (simp only[go_sem,lA,lD,lT] <;>omega) |decide) only[go_sem,↓reduceIte,Nat.reduceEqDiff,reduceCtorEq,Nat.reduceLT,Nat.reduceBEq,Nat.reduceAdd,h62,h63,hy];with_reducible exact hZ):p:=e
theorem H4 {p:Prop}(e:p:=by simp -implicitDefEqProofs (disch:=first|omega| (simp only[go_sem,lA,lD,lT] <;>omega) |decide) only[go_sem,↓reduceIte,Nat.reduceEqDiff,reduceCtorEq];all_goals (rfl)):p:=e
theorem PC {gl:Nat→C}{M:Nat}{pu:Nat→List C→Option C}(hcx:CxOK (aS gl M pu))(h62:∀s:List UInt8,s.length≤1000000→pu 62 [.val (str s)] =some (sl tC (.own 3) (d9 s)))(h63:∀ (l:List Tok) (k:Nat),l.length≤1000000→pu 63 [sl tC .no l,.val (nI k)] =some (sl nC (.own 1) (mW k l)))(s:List UInt8)(hs:s.length≤1000000):FC Tryd.prog gl 16 [.val (str s)] [] (sl nC (.own 1) (cH s)) []:=by
 replace hcx:=hcx.reN (M:=6)
 refine cf (cx:=aS gl 6 pu) (rs:=[.tmp 2]) rfl Tryd.func16 rfl rfl rfl (by simp only[List.length_cons,List.length_nil];decide) (by simp only[go_sem]) ?_
 simp only[dm,go_sem]
 have hy:=True.intro
 have hT:=kE s
 refine Tr.w hcx [] _ [] rfl rfl rfl ?_ w7
 refine Tr.w hcx [1000005] _ [] rfl rfl rfl ?_ w7
 exact Tr.ret H4
end Go.Sx
namespace Go.Sx
open Go.RowKit Go.Proofs
set_option maxRecDepth 100000
set_option maxHeartbeats 8000000
theorem Nk {s:List UInt8}{i:Nat}(h:i< s.length)(hb:g4 s i=true):DM s=true:=List.any_eq_true.2 ⟨i,List.mem_range.2 h,hb⟩
theorem u4 {s:List UInt8}(h:∀j,j< s.length→g4 s j=false):¬DM s=true:=by
 intro hb
 obtain ⟨i,h1,h2⟩:=List.any_eq_true.1 hb
 rw[h i (List.mem_range.1 h1)] at h2;cases h2
theorem iN {p:Prop}(e:p:=by intro KZ hZ;simp -implicitDefEqProofs (disch:=first|omega| (simp only[go_sem,lA,lD,lT] <;>omega) |decide) only[go_sem,↓reduceIte,Nat.reduceEqDiff,reduceCtorEq,Nat.reduceLT,Nat.reduceBEq,Nat.reduceAdd,b1,b2,b3,b4,b5,hy];with_reducible exact hZ):p:=e
theorem jF {p:Prop}(e:p:=by simp -implicitDefEqProofs (disch:=first|omega| (simp only[go_sem,lA,lD,lT] <;>omega) |decide) only[go_sem,↓reduceIte,Nat.reduceEqDiff,reduceCtorEq];all_goals (exact congrArg (fun z=>some (C.val (.bool z))) (by unfold g4;simp_all<;>omega))):p:=e
theorem PD {gl:Nat→C}{M:Nat}{pu:Nat→List C→Option C}(hcx:CxOK (aS gl M pu))(s:List UInt8)(i:Nat)(hs:i< s.length∧s.length≤1000000):FC Tryd.prog gl 61 [.val (nI i),.kp [.val (str s)]] [] (.val (.bool (g4 s i))) []:=by
 replace hcx:=hcx.reN (M:=38)
 refine cf (cx:=aS gl 38 pu) (rs:=[.tmp 3]) rfl Tryd.func61 rfl rfl rfl (by simp only[List.length_cons,List.length_nil];decide) (by simp only[go_sem]) ?_
 simp only[dm,go_sem]
 have b1:=True.intro
 have b2:=True.intro
 have b3:=True.intro
 have b4:=True.intro
 have b5:=True.intro
 have hy:=True.intro
 refine Tr.w hcx [] _ [] rfl rfl rfl ?_ iN
 refine Tr.k [0,1] ?_
 by_cases b1:gt s i< UInt8.ofNat 32
 ·
  refine Tr.w hcx [1000037] [some 4,some 5,some 6,some 7,some 8,some 9,some 10,some 11,some 12,some 13,some 14,some 15,some 16,some 17,some 18,some 19,some 20,some 21,some 22,some 23,some 24,some 25,some 26,some 27,some 28,some 29,some 30,some 31,some 32,some 33,some 34,some 35,some 36,some 37,some 3] [] rfl rfl rfl ?_ iN
  refine Tr.k [3] ?_
  exact Tr.ret jF
 by_cases b2:UInt8.ofNat 126< gt s i
 ·
  refine Tr.w hcx [1000037] [some 4,some 5,some 6,some 7,some 8,some 9,some 10,some 11,some 12,some 13,some 14,some 15,some 16,some 17,some 18,some 19,some 20,some 21,some 22,some 23,some 24,some 25,some 26,some 27,some 28,some 29,some 30,some 31,some 32,some 33,some 34,some 35,some 36,some 37,some 3] [] rfl rfl rfl ?_ iN
  refine Tr.k [3] ?_
  exact Tr.ret jF
 by_cases b3:gt s i=UInt8.ofNat 32
 ·
  have b3o:=b3
  replace b3:=eq_true b3
  by_cases b4:i=0
  ·
   have b4o:=b4
   replace b4:=eq_true b4
   refine Tr.w hcx [1000037] [some 4,some 5,some 6,some 7,some 8,some 9,some 10,some 11,some 12,some 13,some 14,some 15,some 16,some 17,some 18,some 19,some 20,some 21,some 22,some 23,some 24,some 25,some 26,some 27,some 28,some 29,some 30,some 31,some 32,some 33,some 34,some 35,some 36,some 37,some 3] [] rfl rfl rfl ?_ iN
   refine Tr.k [3] ?_
   exact Tr.ret jF
  have b4o:=b4
  replace b4:=eq_false b4
  by_cases b5:i=s.length - 1
  ·
   have b5o:=b5
   replace b5:=eq_true b5
   refine Tr.w hcx [1000037] [some 4,some 5,some 6,some 7,some 8,some 9,some 10,some 11,some 12,some 13,some 14,some 15,some 16,some 17,some 18,some 19,some 20,some 21,some 22,some 23,some 24,some 25,some 26,some 27,some 28,some 29,some 30,some 31,some 32,some 33,some 34,some 35,some 36,some 37,some 3] [] rfl rfl rfl ?_ iN
   refine Tr.k [3] ?_
   exact Tr.ret jF
  have b5o:=b5
  replace b5:=eq_false b5
  refine Tr.w hcx [1000037] [some 4,some 5,some 6,some 7,some 8,some 9,some 10,some 11,some 12,some 13,some 14,some 15,some 16,some 17,some 18,some 19,some 20,some 21,some 22,some 23,some 24,some 25,some 26,some 27,some 28,some 29,some 30,some 31,some 32,some 33,some 34,some 35,some 36,some 37,some 3] [] rfl rfl rfl ?_ iN
  refine Tr.k [3] ?_
  exact Tr.ret jF
 have b3o:=b3
 replace b3:=eq_false b3
 refine Tr.w hcx [1000037] [some 4,some 5,some 6,some 7,some 8,some 9,some 10,some 11,some 12,some 13,some 14,some 15,some 16,some 17,some 18,some 19,some 20,some 21,some 22,some 23,some 24,some 25,some 26,some 27,some 28,some 29,some 30,some 31,some 32,some 33,some 34,some 35,some 36,some 37,some 3] [] rfl rfl rfl ?_ iN
 refine Tr.k [3] ?_
 exact Tr.ret jF
theorem er {p:Prop}(e:p:=by intro KZ hZ;simp -implicitDefEqProofs (disch:=first|omega| (simp only[go_sem,lA,lD,lT] <;>omega) |decide) only[go_sem,↓reduceIte,Nat.reduceEqDiff,reduceCtorEq,Nat.reduceLT,Nat.reduceBEq,Nat.reduceAdd,h62,h61,hno,hy];with_reducible exact hZ):p:=e
theorem kU {p:Prop}(e:p:=by simp -implicitDefEqProofs (disch:=first|omega| (simp only[go_sem,lA,lD,lT] <;>omega) |decide) only[go_sem,↓reduceIte,Nat.reduceEqDiff,reduceCtorEq];all_goals (exact congrArg (fun z=>some (C.val (nI z))) (by unfold dN;first|rw[if_pos hc7] |rw[if_neg hc7,if_pos (Nk hc12 hc16)] |rw[if_neg hc7,if_neg (u4 hA),if_pos hc18] |rw[if_neg hc7,if_neg (u4 hA),if_neg hc18,if_pos hc21] |rw[if_neg hc7,if_neg (u4 hA),if_neg hc18,if_neg hc21]))):p:=e
theorem PE {gl:Nat→C}{M:Nat}{pu:Nat→List C→Option C}(hcx:CxOK (aS gl M pu))(h62:∀s:List UInt8,s.length≤1000000→pu 62 [.val (str s)] =some (sl tC (.own 3) (d9 s)))(h61:∀ (s:List UInt8) (i:Nat),i< s.length∧s.length≤1000000→pu 61 [.val (nI i),.kp [.val (str s)]] =some (.val (.bool (g4 s i))))(hno:∀ (g:Nat) (xs:List C),dh xs=true→pu g xs=none)(s:List UInt8)(hs:s.length≤1000000):FC Tryd.prog gl 15 [.val (str s)] [] (.val (nI (dN s))) []:=by
 replace hcx:=hcx.reN (M:=26)
 refine cf (cx:=aS gl 26 pu) (rs:=[.tmp 2]) rfl Tryd.func15 rfl rfl rfl (by simp only[List.length_cons,List.length_nil];decide) (by simp only[go_sem]) ?_
 simp only[dm,go_sem]
 have hy:=True.intro
 have hT:=kE s
 refine Tr.w hcx [] _ [none] rfl rfl rfl ?_ er
 refine af fun K1 hK1=>?_
 refine Tr.w hcx [] _ [] rfl rfl rfl ?_ er
 refine bc rfl (fun hc7=>?_) (fun hc7=>?_)
 ·
  refine Tr.w hcx [] _ [] rfl rfl rfl ?_ er
  exact Tr.ret kU
 refine Tr.skip ?_
 refine hK1 _ ?_
 refine Tr.w hcx [1000008] _ [] rfl rfl rfl ?_ er
 refine af fun K2 hK2=>?_
 refine Tr.w hcx [] _ [] rfl rfl rfl ?_ er
 refine Tr.k [1,3,10,11] ?_
 refine ax ?_
 refine bz (α:=Nat) (fun a=>[(1,?v1_1),(3,?v3_1),(10,?v10_1),(11,.val (nI a))]) (fun a=>[some [.val (str s)]]) (fun a=>a≤s.length∧∀j,j< a→g4 s j=false) (fun a=>s.length - a) (0) ⟨Nat.zero_le _,fun j hj=>absurd hj (Nat.not_lt_zero j)⟩ ?le_1 ?hh_1 ?bd_1
 case hh_1=>exact rfl
 case le_1=>exact LT
 rintro i ⟨hi,hA⟩
 refine Tr.w hcx [] _ [] rfl rfl rfl ?_ er
 refine af fun K3 hK3=>?_
 refine bc rfl (fun hc12=>?_) (fun hc12=>?_)
 ·
  refine Tr.skip ?_
  refine hK3 _ ?_
  refine af fun K4 hK4=>?_
  refine ax ?_
  refine Tr.w hcx [1000013] _ [] rfl rfl rfl ?_ er
  refine Tr.w hcx [] _ [] rfl rfl rfl ?_ er
  refine Tr.condG fun KT KF hT hF=>?_
  simp only[eX,r8,↓cV,↓reduceIte,Nat.reduceEqDiff,reduceCtorEq,gD,uf,r9,decide_eq_true_eq]
  refine GB.mk (fun hc16=>hT ?_) (fun hc16=>hF ?_)
  ·
   refine Tr.w hcx [] _ [] rfl rfl rfl ?_ er
   exact Tr.ret kU
  refine Tr.skip ?_
  refine hK4 _ ?_
  refine Tr.v hcx [] _ [] rfl rfl rfl ?_ er
  exact ⟨i+1,⟨⟨by omega,fun j hj=>(Nat.lt_or_eq_of_le (Nat.le_of_lt_succ hj)).elim (hA j) (fun e=>e▸hc16)⟩,O1⟩,LT,rfl⟩
 obtain rfl:i=s.length:=by omega
 refine Tr.exit ?_
 refine hK2 _ ?_
 refine af fun K5 hK5=>?_
 refine ax ?_
 refine Tr.w hcx [1000020] _ [] rfl rfl rfl ?_ er
 refine bc rfl (fun hc18=>?_) (fun hc18=>?_)
 ·
  refine Tr.w hcx [] _ [] rfl rfl rfl ?_ er
  exact Tr.ret kU
 refine Tr.w hcx [1000025] _ [] rfl rfl rfl ?_ er
 refine bc rfl (fun hc21=>?_) (fun hc21=>?_)
 ·
  refine Tr.w hcx [] _ [] rfl rfl rfl ?_ er
  exact Tr.ret kU
 refine Tr.skip ?_
 refine hK5 _ ?_
 refine Tr.w hcx [] _ [] rfl rfl rfl ?_ er
 exact Tr.ret kU
end Go.Sx
namespace Go.Sx
def dQ (n:Int)(m:Nat):Nat:=((if n< 0 then -(n+1) else n).tmod (m:Int)).toNat
theorem oF (n:Int)(m:Nat): (((dQ n m:Nat):Int)) = (if n< 0 then -(n+1) else n).tmod (m:Int):=by
 unfold dQ
 refine Int.toNat_of_nonneg (Int.tmod_nonneg _ ?_)
 split<;>omega
theorem jp (n:Int){m:Nat}(h:0< m):dQ n m< m:=by
 have h1:=oF n m
 have h2:=Int.tmod_lt_of_pos (if n< 0 then -(n+1) else n) (b:=(m:Int)) (by omega)
 omega
def bR (l:List Int)(i m:Nat):Nat:=if l.length≤i then 0 else dQ (gt l i) m
theorem dO (l:List Int)(i:Nat){m:Nat}(h:0< m):bR l i m< m:=by
 unfold bR;split
 . exact h
 . exact jp _ h
def pI (c:UInt8):UInt8:=if 97≤c∧c≤122 then c - 97+65 else c
def kF:List UInt8→List UInt8
 | [] =>[]
 |c::r=>pI c::r
def jq (w:List UInt8)(n:Nat):List UInt8:=
 if n=6 then kF w else if n=7 then w++[44] else if n=8 then w++[46] else if n=9 then kF w++[46] else if n=10 then [40]++w++[41] else if n=11 then w++[63] else w
def wlist:List (List UInt8):=[[97,110,110,97],[114,111,109,101],[107,105,110,103],[116,104,101],[111,102],[111,100,101],[108,121,114,101],[120],[49,50]]
def gg (n:Nat):List UInt8:=jq (gt wlist (n % 9)) (n / 9)
def dI (l:List Int)(k:Nat):Nat→List UInt8
 |0=>[]
 |i+1=>(if 0< i then dI l k i++[32] else dI l k i)++gg (bR l (k+1+i) 108)
def fj (l:List Int)(k:Nat):List UInt8:=dI l k (1+bR l k 9)
theorem oG {α:Type}[Inhabited α](l:List α)(p:α→Bool)(h:l.all p=true)(i:Nat)(hi:i< l.length):p (gt l i) =true:=by
 have e:gt l i=l[i]:=by simp[gt,List.getD,List.getElem?_eq_getElem hi]
 rw[e];exact List.all_eq_true.1 h _ (List.getElem_mem hi)
def ig (p:Bool):List UInt8→Bool
 | [] => !p
 |c::r=>if c=32 then !p && ig true r else decide (32≤c) && decide (c≤126) && ig false r
theorem Ct: (List.range 108).all (fun n=>ig true (gg n) && decide ((gg n).length≤7) && decide (0< (gg n).length)) =true:=by decide+kernel
theorem mj:∀ (x:List UInt8)(p:Bool)(y:List UInt8),ig p x=true→ig true y=true→ig p (x++32::y) =true
 | [],p,y,hx,hy=>by
   simp only[ig,Bool.not_eq_true'] at hx;subst hx
   simp only[List.nil_append,ig,if_pos,Bool.not_false,Bool.true_and,hy]
 |c::r,p,y,hx,hy=>by
  simp only[ig,List.cons_append] at hx ⊢
  by_cases hc:c=32
  . rw[if_pos hc] at hx ⊢
    simp only[Bool.and_eq_true] at hx ⊢
    exact ⟨hx.1,mj r true y hx.2 hy⟩
  . rw[if_neg hc] at hx ⊢
    simp only[Bool.and_eq_true] at hx ⊢
    exact ⟨hx.1,mj r false y hx.2 hy⟩
theorem uH (n:Nat)(h:n< 108):ig true (gg n) =true∧(gg n).length≤7∧0< (gg n).length:=by
 have:=List.all_eq_true.1 Ct n (List.mem_range.2 h)
 simp only[Bool.and_eq_true,decide_eq_true_eq] at this
 exact ⟨this.1.1,this.1.2,this.2⟩
theorem nK (l:List Int)(k:Nat):∀i,0< i→ig true (dI l k i) =true∧(dI l k i).length≤8*i∧0< (dI l k i).length
 |0,h=>absurd h (Nat.lt_irrefl 0)
 |1,_=>by
  have:=uH (bR l (k+1+0) 108) (dO _ _ (by decide))
  have e:dI l k 1=gg (bR l (k+1+0) 108):=by simp[dI]
  rw[e];exact ⟨this.1,by omega,this.2.2⟩
 |i+2,_=>by
  obtain ⟨h1,h2,h3⟩:=nK l k (i+1) (by omega)
  have u:=uH (bR l (k+1+(i+1)) 108) (dO _ _ (by decide))
  have e:dI l k (i+2) =dI l k (i+1)++32::gg (bR l (k+1+(i+1)) 108):=by
   rw[dI,if_pos (by omega)];simp
  rw[e]
  exact ⟨mj _ _ _ h1 u.1,by simp;omega,by simp;omega⟩
theorem zi (l:List Int)(k i:Nat): (dI l k i).length≤8*i:=by
 cases i with
 |zero=>simp[dI]
 |succ i=>exact (nK l k (i+1) (by omega)).2.1
theorem ja (l:List Int)(k:Nat):ig true (fj l k) =true∧(fj l k).length≤72∧0< (fj l k).length:=by
 have h:=dO l k (m:=9) (by decide)
 have:=nK l k (1+bR l k 9) (by omega)
 unfold fj
 exact ⟨this.1,by omega,this.2.2⟩
end Go.Sx
