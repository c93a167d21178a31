/-
   And what follows.
-/
import Derived.Test.YtcpdlhgkdogdjaaDoorProg
import Derived.KernelRfl
import Derived.Test.YtcpdlhgkdogdjaaDoorPai
import Derived.Test.YtcpdlhgkdogdjaaDoorPaj
import Derived.Test.YtcpdlhgkdogdjaaDoorPak
set_option linter.unusedSimpArgs false
set_option linter.unusedVariables false
namespace Go.Sx
open Go.RowKit
theorem In {α:Type}[Inhabited α](l r:List α)(t:Nat)(h:t< l.length):gt (l++r) t=gt l t:=by
 simp[gt,List.getD,List.getElem?_append_left h]
theorem sc {α:Type}[Inhabited α](l:List α)(j:Nat)(h:j< l.length):l.take (j+1) =l.take j++[gt l j]:=by
 rw[List.take_add_one,List.getElem?_eq_getElem h];simp[gt,List.getD,List.getElem?_eq_getElem h]
def le (m:Nat):List UInt8:=if h:m=0 then [] else UInt8.ofNat (m % 256)::le (m / 256)
termination_by m
decreasing_by omega
def be (m k:Nat):List UInt8:=(List.range k).map fun j=>UInt8.ofNat (m>>> (8*(k - 1 - j)))
theorem LN {α β:Type}[Inhabited α][Inhabited β](l:List α)(f:α→β)(j:Nat)(h:j< l.length):gt (l.map f) j=f (gt l j):=by
 simp[gt,List.getD,List.getElem?_eq_getElem h]
end Go.Sx
namespace Go.Sx
open Go.RowKit Go.Proofs
theorem iF:td Tryd.prog 3=some ⟨.int .i64,1,8,[.int .i64 0]⟩:=by kernel_rfl
theorem TG:td Tryd.prog 4=some ⟨.bool,1,1,[.bool false]⟩:=by kernel_rfl
theorem WW:td Tryd.prog 5=some ⟨.int .u8,1,1,[.int .u8 0]⟩:=by kernel_rfl
theorem zR:td Tryd.prog 9=some ⟨.string,1,16,[.string ⟨#[]⟩]⟩:=by kernel_rfl
theorem LO:td Tryd.prog 22=some ⟨.slice 3,1,24,[.slice none 0 0]⟩:=by kernel_rfl
theorem Uz:td Tryd.prog 23=some ⟨.slice 29,1,24,[.slice none 0 0]⟩:=by kernel_rfl
theorem UA:td Tryd.prog 25=some ⟨.int .i64,1,8,[.int .i64 0]⟩:=by kernel_rfl
theorem C8:td Tryd.prog 27=some ⟨.slice 46,1,24,[.slice none 0 0]⟩:=by kernel_rfl
theorem C9:td Tryd.prog 29=some ⟨.struct #[Field.mk "List" 27 0 false "" "" 0],1,24,[.slice none 0 0]⟩ :=by kernel_rfl
theorem Da:td Tryd.prog 30=some ⟨.slice 37,1,24,[.slice none 0 0]⟩:=by kernel_rfl
theorem mP:td Tryd.prog 34=some ⟨.struct #[Field.mk "By" 3 0 false "" "" 0,Field.mk "Seq" 3 1 false "" "" 8,Field.mk "K" 3 2 false "" "" 16],3,24,[.int .i64 0,.int .i64 0,.int .i64 0]⟩ :=by kernel_rfl
theorem Dc:td Tryd.prog 35=some ⟨.slice 34,1,24,[.slice none 0 0]⟩:=by kernel_rfl
theorem la:td Tryd.prog 37=some ⟨.struct #[Field.mk "ID" 34 0 false "" "" 0,Field.mk "Form" 3 3 false "" "" 24,Field.mk "Lang" 3 4 false "" "" 32,Field.mk "Text" 9 5 false "" "" 40,Field.mk "Refs" 35 6 false "" "" 56],7,80,[.int .i64 0,.int .i64 0,.int .i64 0,.int .i64 0,.int .i64 0,.string ⟨#[]⟩,.slice none 0 0]⟩ :=by kernel_rfl
theorem Dd:td Tryd.prog 44=some ⟨.slice 48,1,24,[.slice none 0 0]⟩:=by kernel_rfl
theorem tU:td Tryd.prog 46=some ⟨.struct #[Field.mk "List" 44 0 false "" "" 0],1,24,[.slice none 0 0]⟩ :=by kernel_rfl
theorem qV:td Tryd.prog 48=some ⟨.struct #[Field.mk "Title" 9 0 false "" "" 0,Field.mk "List" 30 1 false "" "" 16],2,40,[.string ⟨#[]⟩,.slice none 0 0]⟩ :=by kernel_rfl
theorem LP:td Tryd.prog 53=some ⟨.array 3 3,3,24,List.replicate 3 (.int .i64 0)⟩:=by kernel_rfl
theorem xO:td Tryd.prog 60=some ⟨.struct #[Field.mk "Volume" 3 0 false "" "" 0,Field.mk "Article" 3 1 false "" "" 8,Field.mk "Index" 3 2 false "" "" 16],3,24,[.int .i64 0,.int .i64 0,.int .i64 0]⟩ :=by kernel_rfl
theorem UB:td Tryd.prog 72=some ⟨.slice 5,1,24,[.slice none 0 0]⟩:=by kernel_rfl
theorem UC:td Tryd.prog 97=some ⟨.slice 143,1,24,[.slice none 0 0]⟩:=by kernel_rfl
theorem RB:td Tryd.prog 122=some ⟨.slice 9,1,24,[.slice none 0 0]⟩:=by kernel_rfl
theorem GC:td Tryd.prog 143=some ⟨.struct #[Field.mk "At" 3 0 false "" "" 0,Field.mk "End" 3 1 false "" "" 8,Field.mk "Kind" 3 2 false "" "" 16],3,24,[.int .i64 0,.int .i64 0,.int .i64 0]⟩ :=by kernel_rfl
theorem RC:td Tryd.prog 158=some ⟨.slice 160,1,24,[.slice none 0 0]⟩:=by kernel_rfl
theorem xP:td Tryd.prog 160=some ⟨.struct #[Field.mk "At" 3 0 false "" "" 0,Field.mk "End" 3 1 false "" "" 8,Field.mk "Kind" 3 2 false "" "" 16],3,24,[.int .i64 0,.int .i64 0,.int .i64 0]⟩ :=by kernel_rfl
attribute [go_sem] iF TG WW zR LO Uz UA C8 C9 Da mP Dc la Dd tU qV LP xO UB UC RB GC RC xP
noncomputable def wh:Nat→C:=fun g=>if g=0 then .kp [.val (.int .i64 (-1)),.val (.int .i64 0),.val (.int .i64 0)] else .top
noncomputable def aD (gl:Nat→C)(M:Nat)(pu:Nat→List C→Option C):Cx:=⟨Tryd.prog,M,gl,pu,fun _ _ _=>none,fun _=>false,fun _ _=>false,true⟩
theorem LQ (P:Program)(N:Nat)(gl:Nat→C)(pu:Nat→List C→Option C)(hp:Nat→List C→Hp→Option (C×Hp))(km:TypeId→Value→Bool)(d:Option Nat):jI ⟨P,N,gl,pu,hp,fun _=>false,km,true⟩ d=false:=by cases d<;>rfl
theorem LR (gl:Nat→C)(M:Nat)(pu:Nat→List C→Option C)(d:Option Nat):jI (aD gl M pu) d=false:=by cases d<;>rfl
theorem GD (gl:Nat→C)(M:Nat)(pu:Nat→List C→Option C): (aD gl M pu).P=Tryd.prog:=rfl
theorem RD (gl:Nat→C)(M:Nat)(pu:Nat→List C→Option C): (aD gl M pu).N=M:=rfl
theorem LS (gl:Nat→C)(M:Nat)(pu:Nat→List C→Option C): (aD gl M pu).pu=pu:=rfl
theorem LU (gl:Nat→C)(M:Nat)(pu:Nat→List C→Option C): (aD gl M pu).hp=fun _ _ _=>none:=rfl
theorem LV (gl:Nat→C)(M:Nat)(pu:Nat→List C→Option C): (aD gl M pu).gl=gl:=rfl
theorem eG {gl:Nat→C}{M:Nat}{pu:Nat→List C→Option C}: (aD gl M pu).P.follows .mixedOrders=true:=by
 rw[GD];kernel_rfl
theorem RE:wh 0= .kp [.val (.int .i64 (-1)),.val (.int .i64 0),.val (.int .i64 0)]:=rfl
theorem zS:∀g,af 0 (wh g) =true:=fun g=>by
 unfold wh;split<;>rfl
attribute [go_sem] LQ LR GD RD LS LU LV
end Go.Sx
namespace Go.Sx
open Go.RowKit Go.Proofs
set_option maxRecDepth 10000
abbrev ID:=Int×Int×Int
def iD (x:ID):List C:=[.val (.int .i64 x.1),.val (.int .i64 x.2.1),.val (.int .i64 x.2.2)]
abbrev aI:=ID×Int×Int×List UInt8×List ID
def pC (x:aI):List C:=[.val (.int .i64 x.1.1),.val (.int .i64 x.1.2.1),.val (.int .i64 x.1.2.2),.val (.int .i64 x.2.1),.val (.int .i64 x.2.2.1),.val (str x.2.2.2.1),sl iD .no x.2.2.2.2]
abbrev gy:=List UInt8×List aI
def aC (x:gy):List C:=[.val (str x.1),sl pC .no x.2]
abbrev ct:=List gy
def vC (x:ct):List C:=[sl aC .no x]
abbrev ah:=List ct
instance:Cel iD 3:=⟨fun _=>rfl,fun _=>rfl,by decide,fun _ _=>rfl⟩
instance:Cel pC 7:=⟨fun _=>rfl,fun _=>rfl,by decide,fun _ _=>rfl⟩
instance:Cel aC 2:=⟨fun _=>rfl,fun _=>rfl,by decide,fun _ _=>rfl⟩
instance:Sca vC (sl aC .no):=⟨fun _=>rfl,fun _=>rfl,fun _=>rfl,fun _ _=>rfl⟩
instance:Fla iD:=⟨fun _=>rfl⟩
instance:Nrf pC:=⟨fun k x=>by simp only[pC,noRefs,af,ax,Bool.and_self]⟩
instance:Nrf aC:=⟨fun k x=>by simp only[aC,noRefs,af,ax,Bool.and_self]⟩
instance:Nrf vC:=⟨fun k x=>by simp only[vC,noRefs,af,ax,Bool.and_self]⟩
instance:Inj iD:=⟨fun a b h=>by
 obtain ⟨a1,a2,a3⟩:=a;obtain ⟨b1,b2,b3⟩:=b
 simp only[iD,List.cons.injEq,C.val.injEq,Value.int.injEq,true_and,and_true] at h
 obtain ⟨rfl,rfl,rfl⟩:=h;rfl⟩
instance:Inj pC:=⟨fun a b h=>by
 obtain ⟨⟨a1,a2,a3⟩,a4,a5,a6,a7⟩:=a;obtain ⟨⟨b1,b2,b3⟩,b4,b5,b6,b7⟩:=b
 simp only[pC,List.cons.injEq,C.val.injEq,Value.int.injEq,bh,bJ,true_and,and_true] at h
 obtain ⟨rfl,rfl,rfl,rfl,rfl,rfl,rfl⟩:=h;rfl⟩
instance:Inj aC:=⟨fun a b h=>by
 obtain ⟨a1,a2⟩:=a;obtain ⟨b1,b2⟩:=b
 simp only[aC,List.cons.injEq,C.val.injEq,bh,bJ,true_and,and_true] at h
 obtain ⟨rfl,rfl⟩:=h;rfl⟩
instance:Inj vC:=⟨fun a b h=>by
 simp only[vC,List.cons.injEq,bJ,and_true] at h;exact h⟩
theorem NV (x:ID):List.map C.noR (iD x) =iD x:=rfl
theorem NW (x:aI):List.map C.noR (pC x) =pC x:=rfl
theorem NX (x:gy):List.map C.noR (aC x) =aC x:=rfl
theorem NY (x:ct):List.map C.noR (vC x) =vC x:=rfl
theorem Fr (xs:List C)(k o n:Nat)(h:k≤xs.length):fG (xs.drop k) o n=fG xs (k+o) n:=by
 unfold fG
 rw[List.length_drop,List.drop_drop]
 by_cases e:k+o+n≤xs.length
 . rw[if_pos (by omega),if_pos e]
 . rw[if_neg (by omega),if_neg e]
theorem pF {α:Type}[Inhabited α](f:α→List C){s:Nat}[hf:Cel f s](l:List α)(k j:Nat)(h:k< l.length)(hj:j< s):dJ (cl f l) (k*s+j) =dJ (f (gt l k)) j:=by
 unfold dJ
 have e:gt l k=l[k]:=by simp[gt,List.getD,List.getElem?_eq_getElem h]
 rw[wO (f:=f) l k j hj,List.getElem?_eq_getElem h,e]
 rfl
theorem rC {α:Type}[Inhabited α](f:α→List C){s:Nat}[hf:Cel f s](l:List α)(k j n:Nat)(h:k< l.length)(hj:j+n≤s):fG (cl f l) (k*s+j) n=fG (f (gt l k)) j n:=by
 have e:l[k]? =some (gt l k):=by simp[gt,List.getD,List.getElem?_eq_getElem h]
 have ha:=yg (f:=f) l k _ e
 have hl:=aA (f:=f) l
 have hlf:=hf.len (gt l k)
 have hk:k*s+s≤l.length*s:=by
  have: (k+1)*s≤l.length*s:=Nat.mul_le_mul_right s h
  rw[Nat.add_mul,Nat.one_mul] at this;exact this
 unfold fG
 rw[if_pos (by rw[hl];omega),if_pos (by rw[hlf];omega)]
 congr 3
 rw[←ha,List.drop_take,List.take_take,Nat.min_eq_left (by omega),List.drop_drop]
theorem Kg (k:Hp)(x y:Option (List C)): (k++[x]).set k.length y=k++[y]:=by simp
theorem NZ (k:Hp)(x:Option (List C)):Hp.at (k++[x]) k.length=aP x:=by rw[dR,if_pos rfl]
theorem Kh (k:Hp)(x:Option (List C)): (k++[x])[k.length]? =some x:=by simp
theorem xe (x:aI):aP (some (pC x)) =some (pC x):=rfl
theorem xf (x:gy):aP (some (aC x)) =some (aC x):=rfl
theorem xg (x:ct):aP (some (vC x)) =some (vC x):=rfl
theorem N0 (x:ID):fG (iD x) 0 3=some (.agg (iD x)):=rfl
theorem N1 (x:aI):fG (pC x) 0 7=some (.agg (pC x)):=rfl
theorem Ki (x:aI):fG (pC x) 0 3=some (.agg (iD x.1)):=rfl
theorem jQ {P:Program}{t i ft k:Nat}{fs:Array Field}{fd:Field}{de:TD}{s y:Nat}{z:List Value}(h1:td P t=some ⟨.struct fs,s,y,z⟩)(h2:fs[i]? =some fd)(ht:fd.type=ft)(hk:fd.offset=k)(h3:td P ft=some de)(h4:¬de.size=0)(b o:Nat):aB P t (.bp b o) i=some (vp (.bp b (o+k))):=by
 subst ht hk
 unfold aB;simp only[h1,h2,h3,if_neg h4];rfl
theorem qz {P:Program}{t i ft k:Nat}{fs:Array Field}{fd:Field}{de:TD}{s y:Nat}{z:List Value}(h1:td P t=some ⟨.struct fs,s,y,z⟩)(h2:fs[i]? =some fd)(ht:fd.type=ft)(hk:fd.offset=k)(h3:td P ft=some de)(h4:¬de.size=0)(xs:List C)(h:k≤xs.length):aB P t (.kp xs) i=some (vp (.kp (xs.drop k))):=by
 subst ht hk
 unfold aB;simp only[h1,h2,h3,if_neg h4,if_pos h];rfl
theorem N2 (a b c:C)(x:ID):dP [a,b,c] 0 (iD x) =some (iD x,.val undef):=rfl
theorem N3 (fs:Array Field)(b o y:Nat)(z:List Value)(x:ID):kT (some ⟨.struct fs,3,y,z⟩) b o (some (iD x)) =some (.wr b (fun cells=>dP cells o (iD x)) none):=rfl
theorem N4 (a b c d e f g:C)(x:aI):dP [a,b,c,d,e,f,g] 0 (pC x) =some (pC x,.val undef):=rfl
theorem N5 (fs:Array Field)(b o y:Nat)(z:List Value)(x:aI):kT (some ⟨.struct fs,7,y,z⟩) b o (some (pC x)) =some (.wr b (fun cells=>dP cells o (pC x)) none):=rfl
theorem BM (x:aI): (pC x).length=7:=rfl
theorem N6 (a b:C)(x:gy):dP [a,b] 0 (aC x) =some (aC x,.val undef):=rfl
theorem N7 (fs:Array Field)(b o y:Nat)(z:List Value)(x:gy):kT (some ⟨.struct fs,2,y,z⟩) b o (some (aC x)) =some (.wr b (fun cells=>dP cells o (aC x)) none):=rfl
theorem N8 (a:C)(x:ct):dP [a] 0 (vC x) =some (vC x,.val undef):=rfl
theorem N9 (fs:Array Field)(b o y:Nat)(z:List Value)(x:ct):kT (some ⟨.struct fs,1,y,z⟩) b o (some (vC x)) =some (.wr b (fun cells=>dP cells o (vC x)) none):=rfl
theorem Ft (x:ID):dJ (iD x) 0=some (.val (.int .i64 x.1)):=rfl
theorem Fu (x:ID):dJ (iD x) 1=some (.val (.int .i64 x.2.1)):=rfl
theorem Fv (x:ID):dJ (iD x) 2=some (.val (.int .i64 x.2.2)):=rfl
theorem Fw (l:List ID)(k:Nat)(h:k< l.length):fG (cl iD l) (k*3) 3=some (.agg (iD (gt l k))):=by
 have:=rC iD l k 0 3 h (by decide)
 rw[Nat.add_zero] at this
 exact this
theorem Fx (x:aI):dJ (pC x) 3=some (.val (.int .i64 x.2.1)):=rfl
theorem yL (l:List aI)(k:Nat)(h:k< l.length):dJ (cl pC l) (k*7+3) =some (.val (.int .i64 (gt l k).2.1)):=by
 have:=pF pC l k 3 h (by decide)
 exact this
theorem Fy (x:aI):dJ (pC x) 4=some (.val (.int .i64 x.2.2.1)):=rfl
theorem Fz (x:aI):dJ (pC x) 5=some (.val (str x.2.2.2.1)):=rfl
theorem yM (l:List aI)(k:Nat)(h:k< l.length):dJ (cl pC l) (k*7+5) =some (.val (str (gt l k).2.2.2.1)):=by
 have:=pF pC l k 5 h (by decide)
 exact this
theorem FB (x:aI):dJ (pC x) 6=some (sl iD .no x.2.2.2.2):=rfl
theorem yN (l:List aI)(k:Nat)(h:k< l.length):dJ (cl pC l) (k*7+6) =some (sl iD .no (gt l k).2.2.2.2):=by
 have:=pF pC l k 6 h (by decide)
 exact this
theorem FD (l:List aI)(k:Nat)(h:k< l.length):fG (cl pC l) (k*7) 7=some (.agg (pC (gt l k))):=by
 have:=rC pC l k 0 7 h (by decide)
 rw[Nat.add_zero] at this
 exact this
theorem BN (l:List aI)(k:Nat)(h:k< l.length):fG (cl pC l) (k*7) 3=some (.agg (iD (gt l k).1)):=by
 have:=rC pC l k 0 3 h (by decide)
 rw[Nat.add_zero] at this
 exact this
theorem FE (x:gy):dJ (aC x) 0=some (.val (str x.1)):=rfl
theorem yO (l:List gy)(k:Nat)(h:k< l.length):dJ (cl aC l) (k*2) =some (.val (str (gt l k).1)):=by
 have:=pF aC l k 0 h (by decide)
 rw[Nat.add_zero] at this
 exact this
theorem FF (x:gy):dJ (aC x) 1=some (sl pC .no x.2):=rfl
theorem qA (l:List gy)(k:Nat)(h:k< l.length):dJ (cl aC l) (k*2+1) =some (sl pC .no (gt l k).2):=by
 have:=pF aC l k 1 h (by decide)
 exact this
theorem FG (l:List gy)(k:Nat)(h:k< l.length):fG (cl aC l) (k*2) 2=some (.agg (aC (gt l k))):=by
 have:=rC aC l k 0 2 h (by decide)
 rw[Nat.add_zero] at this
 exact this
theorem FH (x:ct):dJ (vC x) 0=some (sl aC .no x):=rfl
theorem qB (l:List ct)(k:Nat)(h:k< l.length):dJ (cl vC l) (k) =some (sl aC .no (gt l k)):=by
 have:=pF vC l k 0 h (by decide)
 rw[Nat.mul_one,Nat.add_zero] at this
 exact this
theorem FI (l:List ct)(k:Nat)(h:k< l.length):fG (cl vC l) (k) 1=some (.agg (vC (gt l k))):=by
 have:=rC vC l k 0 1 h (by decide)
 rw[Nat.mul_one,Nat.add_zero] at this
 exact this
theorem Oa (a b x:C):dP [a,b] 0 [x] =some ([x,b],.val undef):=rfl
theorem Ob (a b x:C):dP [a,b] 1 [x] =some ([a,x],.val undef):=rfl
theorem Oc (a b x:C):m4 [a,b] 1 x=some ([a,x],.val undef):=rfl
theorem Od (a b c x:C):dP [a,b,c] 0 [x] =some ([x,b,c],.val undef):=rfl
theorem Oe (a b c x:C):dP [a,b,c] 1 [x] =some ([a,x,c],.val undef):=rfl
theorem Of (a b c x:C):dP [a,b,c] 2 [x] =some ([a,b,x],.val undef):=rfl
theorem Og (a b c d e f g x:C):dP [a,b,c,d,e,f,g] 3 [x] =some ([a,b,c,x,e,f,g],.val undef):=rfl
theorem Oh (a b c d e f g x:C):dP [a,b,c,d,e,f,g] 4 [x] =some ([a,b,c,d,x,f,g],.val undef):=rfl
theorem Oi (a b c d e f g x:C):dP [a,b,c,d,e,f,g] 5 [x] =some ([a,b,c,d,e,x,g],.val undef):=rfl
theorem Oj (a b c d e f g x:C):dP [a,b,c,d,e,f,g] 6 [x] =some ([a,b,c,d,e,f,x],.val undef):=rfl
theorem Ok (a b c d e f g x:C):m4 [a,b,c,d,e,f,g] 6 x=some ([a,b,c,d,e,f,x],.val undef):=rfl
theorem Ol (b o:Nat):aB Tryd.prog 34 (.bp b o) 0=some (vp (.bp b (o+0))):= @jQ Tryd.prog 34 0 3 0 _ _ _ _ _ _ mP rfl rfl rfl iF (by decide) b o
theorem Om (b o:Nat):aB Tryd.prog 34 (.bp b o) 1=some (vp (.bp b (o+1))):= @jQ Tryd.prog 34 1 3 1 _ _ _ _ _ _ mP rfl rfl rfl iF (by decide) b o
theorem On (b o:Nat):aB Tryd.prog 34 (.bp b o) 2=some (vp (.bp b (o+2))):= @jQ Tryd.prog 34 2 3 2 _ _ _ _ _ _ mP rfl rfl rfl iF (by decide) b o
theorem Oo (b o:Nat):aB Tryd.prog 60 (.bp b o) 0=some (vp (.bp b (o+0))):= @jQ Tryd.prog 60 0 3 0 _ _ _ _ _ _ xO rfl rfl rfl iF (by decide) b o
theorem Oq (b o:Nat):aB Tryd.prog 60 (.bp b o) 1=some (vp (.bp b (o+1))):= @jQ Tryd.prog 60 1 3 1 _ _ _ _ _ _ xO rfl rfl rfl iF (by decide) b o
theorem Or (b o:Nat):aB Tryd.prog 60 (.bp b o) 2=some (vp (.bp b (o+2))):= @jQ Tryd.prog 60 2 3 2 _ _ _ _ _ _ xO rfl rfl rfl iF (by decide) b o
theorem Ot (b o:Nat):aB Tryd.prog 37 (.bp b o) 0=some (vp (.bp b (o+0))):= @jQ Tryd.prog 37 0 34 0 _ _ _ _ _ _ la rfl rfl rfl mP (by decide) b o
theorem Ou (xs:List C)(h:0≤xs.length):aB Tryd.prog 37 (.kp xs) 0=some (vp (.kp (xs.drop 0))):= @qz Tryd.prog 37 0 34 0 _ _ _ _ _ _ la rfl rfl rfl mP (by decide) xs h
theorem Ov (b o:Nat):aB Tryd.prog 37 (.bp b o) 1=some (vp (.bp b (o+3))):= @jQ Tryd.prog 37 1 3 3 _ _ _ _ _ _ la rfl rfl rfl iF (by decide) b o
theorem Ox (xs:List C)(h:3≤xs.length):aB Tryd.prog 37 (.kp xs) 1=some (vp (.kp (xs.drop 3))):= @qz Tryd.prog 37 1 3 3 _ _ _ _ _ _ la rfl rfl rfl iF (by decide) xs h
theorem Oy (b o:Nat):aB Tryd.prog 37 (.bp b o) 2=some (vp (.bp b (o+4))):= @jQ Tryd.prog 37 2 3 4 _ _ _ _ _ _ la rfl rfl rfl iF (by decide) b o
theorem Oz (b o:Nat):aB Tryd.prog 37 (.bp b o) 3=some (vp (.bp b (o+5))):= @jQ Tryd.prog 37 3 9 5 _ _ _ _ _ _ la rfl rfl rfl zR (by decide) b o
theorem OA (xs:List C)(h:5≤xs.length):aB Tryd.prog 37 (.kp xs) 3=some (vp (.kp (xs.drop 5))):= @qz Tryd.prog 37 3 9 5 _ _ _ _ _ _ la rfl rfl rfl zR (by decide) xs h
theorem OB (b o:Nat):aB Tryd.prog 37 (.bp b o) 4=some (vp (.bp b (o+6))):= @jQ Tryd.prog 37 4 35 6 _ _ _ _ _ _ la rfl rfl rfl Dc (by decide) b o
theorem OC (xs:List C)(h:6≤xs.length):aB Tryd.prog 37 (.kp xs) 4=some (vp (.kp (xs.drop 6))):= @qz Tryd.prog 37 4 35 6 _ _ _ _ _ _ la rfl rfl rfl Dc (by decide) xs h
theorem OD (b o:Nat):aB Tryd.prog 46 (.bp b o) 0=some (vp (.bp b (o+0))):= @jQ Tryd.prog 46 0 44 0 _ _ _ _ _ _ tU rfl rfl rfl Dd (by decide) b o
theorem OE (xs:List C)(h:0≤xs.length):aB Tryd.prog 46 (.kp xs) 0=some (vp (.kp (xs.drop 0))):= @qz Tryd.prog 46 0 44 0 _ _ _ _ _ _ tU rfl rfl rfl Dd (by decide) xs h
theorem OF (b o:Nat):aB Tryd.prog 48 (.bp b o) 0=some (vp (.bp b (o+0))):= @jQ Tryd.prog 48 0 9 0 _ _ _ _ _ _ qV rfl rfl rfl zR (by decide) b o
theorem OG (xs:List C)(h:0≤xs.length):aB Tryd.prog 48 (.kp xs) 0=some (vp (.kp (xs.drop 0))):= @qz Tryd.prog 48 0 9 0 _ _ _ _ _ _ qV rfl rfl rfl zR (by decide) xs h
theorem OH (b o:Nat):aB Tryd.prog 48 (.bp b o) 1=some (vp (.bp b (o+1))):= @jQ Tryd.prog 48 1 30 1 _ _ _ _ _ _ qV rfl rfl rfl Da (by decide) b o
theorem OI (xs:List C)(h:1≤xs.length):aB Tryd.prog 48 (.kp xs) 1=some (vp (.kp (xs.drop 1))):= @qz Tryd.prog 48 1 30 1 _ _ _ _ _ _ qV rfl rfl rfl Da (by decide) xs h
theorem OJ (b o:Nat):aB Tryd.prog 29 (.bp b o) 0=some (vp (.bp b (o+0))):= @jQ Tryd.prog 29 0 27 0 _ _ _ _ _ _ C9 rfl rfl rfl C8 (by decide) b o
theorem OK (xs:List C)(h:0≤xs.length):aB Tryd.prog 29 (.kp xs) 0=some (vp (.kp (xs.drop 0))):= @qz Tryd.prog 29 0 27 0 _ _ _ _ _ _ C9 rfl rfl rfl C8 (by decide) xs h
attribute [go_sem] BM N3 N5 N7 N9 Fr Kg NZ Kh xe xf xg N0 N1 Ki Ft Fu Fv Fx Fy Fz FB FE FF FH Ol Om On Oo Oq Or Ot Ou Ov Ox Oy Oz OA OB OC OD OE OF OG OH OI OJ OK
attribute [go_sem high] N2 N4 N6 N8 NV NW NX NY Fw yL yM yN FD BN yO qA FG qB FI Oa Ob Oc Od Oe Of Og Oh Oi Oj Ok
end Go.Sx
namespace Go.Sx
end Go.Sx
namespace Go.Sx
structure Tok where
 a:Nat
 e:Nat
 k:Nat
deriving DecidableEq
instance:Inhabited Tok:=⟨⟨0,0,0⟩⟩
def kd (c:UInt8):Nat:=if (97≤c∧c≤122)∨(65≤c∧c≤90) then 0 else if 48≤c∧c≤57 then 1 else if c=64 then 3 else 2
theorem UI (p:UInt8→Bool)(h: (List.range 256).all (fun n=>p (UInt8.ofNat n)) =true)(c:UInt8):p c=true:=by
 have h1:=List.all_eq_true.1 h c.toNat (List.mem_range.2 c.toNat_lt)
 have h2:UInt8.ofNat c.toNat=c:=UInt8.toNat_inj.1 (by simp)
 rwa [h2] at h1
theorem Sj (c:UInt8):kd c≤3:=by
 have:=UI (fun c=>decide (kd c≤3)) (by decide+kernel) c
 simpa using this
theorem pD:kd 32=2:=by decide
def d6 (p:Nat):Option (Nat×Nat)→List UInt8→List Tok
 |none,[] =>[]
 |some (a,k),[] =>[⟨a,p,k⟩]
 |none,c::r=>if c=32 then d6 (p+1) none r else d6 (p+1) (some (p,kd c)) r
 |some (a,k),c::r=>if c≠32∧k< 2∧kd c=k then d6 (p+1) (some (a,k)) r else
  ⟨a,p,k⟩:: (if c=32 then d6 (p+1) none r else d6 (p+1) (some (p,kd c)) r)
def dO (s:List UInt8):List Tok:=d6 0 none s
def ir (k:Nat):List UInt8→Nat
 | [] =>0
 |c::r=>if k< 2∧kd c=k then ir k r+1 else 0
theorem BG (k:Nat):∀l,ir k l≤l.length
 | [] =>Nat.le_refl _
 |c::r=>by
  unfold ir
  have:=BG k r
  split<;>simp<;>omega
theorem eQ (p:Nat)(c:UInt8)(r:List UInt8):d6 p none (c::r) =if c=32 then d6 (p+1) none r else d6 (p+1) (some (p,kd c)) r:=rfl
theorem uQ (a k:Nat):∀ (l:List UInt8)(p:Nat),d6 p (some (a,k)) l= ⟨a,p+ir k l,k⟩::d6 (p+ir k l) none (l.drop (ir k l))
 | [],p=>rfl
 |c::r,p=>by
  by_cases h:k< 2∧kd c=k
  . have hc:c≠32:=by rintro rfl;rw[pD] at h;omega
    have e1:d6 p (some (a,k)) (c::r) =d6 (p+1) (some (a,k)) r:=if_pos ⟨hc,h⟩
    have e2:ir k (c::r) =ir k r+1:=if_pos h
    rw[e1,e2,uQ a k r (p+1),List.drop_succ_cons]
    rw[show p+1+ir k r=p+(ir k r+1) by omega]
  . have e1:d6 p (some (a,k)) (c::r) = ⟨a,p,k⟩::d6 p none (c::r):=if_neg (fun h'=>h h'.2)
    have e2:ir k (c::r) =0:=if_neg h
    rw[e1,e2]
    rfl
theorem Kf (p:Nat)(c:UInt8)(r:List UInt8)(h:c≠32):d6 p none (c::r) = ⟨p,p+1+ir (kd c) r,kd c⟩::d6 (p+1+ir (kd c) r) none (r.drop (ir (kd c) r)):=by
 rw[eQ,if_neg h,uQ]
theorem BH (p:Nat)(r:List UInt8):d6 p none (32::r) =d6 (p+1) none r:=by rw[eQ,if_pos rfl]
def qv (p:Nat)(prev:Option UInt8)(out:List Tok):List UInt8→List Tok
 | [] =>out
 |c::r=>qv (p+1) (some c) (if c=32 then out else if out≠[]∧kd c< 2∧prev.map kd=some (kd c) then out.dropLast++[⟨(out.getLastD default).a,p+1,(out.getLastD default).k⟩] else out++[⟨p,p+1,kd c⟩]) r
def oR (p:Nat):Option (Nat×Nat)→List Tok
 |none=>[]
 |some (a,k) =>[⟨a,p,k⟩]
theorem kj:∀ (l:List UInt8)(p:Nat)(prev:Option UInt8)(cur:Option (Nat×Nat))(out:List Tok),
 (cur=none→prev=none∨prev=some 32)→(∀a k,cur=some (a,k)→∃c,prev=some c∧kd c=k∧c≠32)→
 qv p prev (out++oR p cur) l=out++d6 p cur l
 | [],p,prev,none,out,_,_=>by simp[qv,oR,d6]
 | [],p,prev,some (a,k),out,_,_=>rfl
 |c::r,p,prev,none,out,h1,_=>by
  unfold qv
  rw[eQ]
  by_cases hc:c=32
  . subst hc
    rw[if_pos rfl,if_pos rfl]
    exact kj r (p+1) (some 32) none out (fun _=> .inr rfl) (fun a k h=>by cases h)
  . rw[if_neg hc,if_neg hc,if_neg]
    . have ih:=kj r (p+1) (some c) (some (p,kd c)) out (fun h=>by cases h) (fun a k h=>⟨c,rfl,by cases h;rfl,hc⟩)
      simpa[oR] using ih
    . rintro ⟨_,h3,h4⟩
      rcases h1 rfl with rfl|rfl
      . cases h4
      . simp only[Option.map_some,Option.some.injEq,pD] at h4;omega
 |c::r,p,prev,some (a,k),out,_,h2=>by
  obtain ⟨c',rfl,hk,hc'⟩:=h2 a k rfl
  unfold qv d6
  by_cases hc:c=32
  . subst hc
    rw[if_pos rfl,if_neg (fun h=>h.1 rfl),if_pos rfl]
    have ih:=kj r (p+1) (some 32) none (out++oR p (some (a,k))) (fun _=> .inr rfl) (fun a k h=>by cases h)
    simpa[oR] using ih
  . rw[if_neg hc]
    by_cases h:k< 2∧kd c=k
    . rw[if_pos ⟨by simp[oR],by omega,by simp;omega⟩,if_pos ⟨hc,h⟩]
      have ih:=kj r (p+1) (some c) (some (a,k)) out (fun h=>by cases h) (fun a' k' h'=>⟨c,rfl,by cases h';exact h.2,hc⟩)
      simpa[oR] using ih
    . have hn:¬ (out++oR p (some (a,k))≠[]∧kd c< 2∧Option.map kd (some c') =some (kd c)):=by
       rintro ⟨_,h3,h4⟩
       simp only[Option.map_some,Option.some.injEq] at h4
       omega
      rw[if_neg hn,if_neg (fun h'=>h h'.2),if_neg hc]
      have ih:=kj r (p+1) (some c) (some (p,kd c)) (out++oR p (some (a,k))) (fun h=>by cases h) (fun a k h=>⟨c,rfl,by cases h;rfl,hc⟩)
      simpa[oR] using ih
theorem Fm (s:List UInt8):qv 0 none [] s=dO s:=by
 have:=kj s 0 none none [] (fun _=> .inl rfl) (fun a k h=>by cases h)
 rw[List.nil_append] at this
 exact this
def Lie (lo hi:Nat):List Tok→Prop
 | [] =>lo≤hi
 |t::r=>lo≤t.a∧t.a< t.e∧t.e≤hi∧t.k≤3∧Lie t.e hi r
theorem Lie.mono {lo lo' hi:Nat}(h:lo'≤lo):∀ {l:List Tok},Lie lo hi l→Lie lo' hi l
 | [],k=>Nat.le_trans h k
 |t::r,k=>⟨Nat.le_trans h k.1,k.2⟩
theorem xb:∀ (l:List UInt8)(p:Nat),Lie p (p+l.length) (d6 p none l)∧∀a k,a< p→k≤3→Lie a (p+l.length) (d6 p (some (a,k)) l)
 | [],p=>⟨Nat.le_refl _,fun a k h hk=>⟨Nat.le_refl _,h,Nat.le_refl _,hk,Nat.le_refl _⟩⟩
 |c::r,p=>by
  obtain ⟨i1,i2⟩:=xb r (p+1)
  have e:p+1+r.length=p+(c::r).length:=by simp;omega
  rw[e] at i1 i2
  have hno:Lie p (p+(c::r).length) (if c=32 then d6 (p+1) none r else d6 (p+1) (some (p,kd c)) r):=by
   split
   . exact i1.mono (by omega)
   . exact i2 p (kd c) (by omega) (Sj c)
  refine ⟨by rw[eQ];exact hno,fun a k h hk=>?_⟩
  unfold d6
  split
  . exact i2 a k (by omega) hk
  . exact ⟨Nat.le_refl _,h,Nat.le_add_right _ _,hk,hno⟩
theorem Fn (s:List UInt8):Lie 0 s.length (dO s):=by
 have:=(xb s 0).1
 rwa [Nat.zero_add] at this
theorem Lie.len {lo hi:Nat}:∀ {l:List Tok},Lie lo hi l→l.length+lo≤hi
 | [],h=>by simpa[Lie] using h
 |t::r,h=>by
  have:=h.2.2.2.2.len
  have:=h.1
  have:=h.2.1
  simp;omega
theorem jp (s:List UInt8): (dO s).length≤s.length:=by have:=(Fn s).len;omega
theorem kl (y:List UInt8):∀ (x:List UInt8)(p:Nat)(cur:Option (Nat×Nat)),d6 p cur (x++32::y) =d6 p cur x++d6 (p+x.length+1) none y
 | [],p,none=>by simp[d6]
 | [],p,some (a,k) =>by simp[d6]
 |c::x,p,none=>by
  rw[List.cons_append,eQ,eQ]
  have e:p+(c::x).length+1=p+1+x.length+1:=by simp;omega
  rw[e]
  split
  . exact kl y x (p+1) none
  . exact kl y x (p+1) (some (p,kd c))
 |c::x,p,some (a,k) =>by
  rw[List.cons_append]
  have e:p+(c::x).length+1=p+1+x.length+1:=by simp;omega
  rw[e]
  by_cases h:c≠32∧k< 2∧kd c=k
  . have e1:∀r,d6 p (some (a,k)) (c::r) =d6 (p+1) (some (a,k)) r:=fun r=>if_pos h
    rw[e1,e1]
    exact kl y x (p+1) (some (a,k))
  . have e1:∀r,d6 p (some (a,k)) (c::r) = ⟨a,p,k⟩:: (if c=32 then d6 (p+1) none r else d6 (p+1) (some (p,kd c)) r):=fun r=>if_neg h
    rw[e1,e1,List.cons_append]
    congr 1
    split
    . exact kl y x (p+1) none
    . exact kl y x (p+1) (some (p,kd c))
def BI (d:Nat)(t:Tok):Tok:=⟨t.a+d,t.e+d,t.k⟩
theorem iK (d:Nat):∀ (l:List UInt8)(p:Nat)(cur:Option (Nat×Nat)),d6 (p+d) (cur.map fun q=>(q.1+d,q.2)) l= (d6 p cur l).map (BI d)
 | [],p,none=>rfl
 | [],p,some (a,k) =>rfl
 |c::r,p,none=>by
  rw[Option.map_none,eQ,eQ]
  have e:p+d+1=p+1+d:=by omega
  rw[e]
  split
  . exact iK d r (p+1) none
  . exact iK d r (p+1) (some (p,kd c))
 |c::r,p,some (a,k) =>by
  rw[Option.map_some]
  have e:p+d+1=p+1+d:=by omega
  unfold d6
  rw[e]
  split
  . exact iK d r (p+1) (some (a,k))
  . rw[List.map_cons]
    congr 1
    split
    . exact iK d r (p+1) none
    . exact iK d r (p+1) (some (p,kd c))
theorem BJ (x y:List UInt8):dO (x++32::y) =dO x++(dO y).map (BI (x.length+1)):=by
 unfold dO
 rw[kl]
 congr 1
 have:=iK (x.length+1) y 0 none
 rw[←this]
 rw[Option.map_none,Nat.zero_add,Nat.zero_add]
def eM (s:List UInt8)(i:Nat):Bool:=decide (gt s i< 32) ||decide (126< gt s i) || (decide (gt s i=32) && (decide (i=0) ||decide (i+1=s.length) ||decide (gt s (i - 1) =32)))
def BK (s:List UInt8):Bool:=(List.range s.length).any (eM s)
def cC (s:List UInt8):Nat:=if 4096< s.length then 4 else if BK s=true then 2 else if s= [] then 2 else if 256< (dO s).length then 4 else 0
def Sk (s:List UInt8)(f t:Nat):List UInt8:=(s.drop (gt (dO s) f).a).take ((gt (dO s) (t - 1)).e - (gt (dO s) f).a)
def part (s:List UInt8)(f t:Int):List UInt8:=if f< 0∨t≤f∨((dO s).length:Int) < t then [] else Sk s f.toNat t.toNat
def oS (k:Nat)(l:List Tok):List Nat:=(List.range l.length).filter fun i=>decide ((gt l i).k=k)
def cG (s:List UInt8):List Nat:=oS 3 (dO s)
def nS (a b:List UInt8):List UInt8:=a++32::b
end Go.Sx
namespace Go.Sx
open Go.RowKit Go.Proofs
set_option maxRecDepth 10000
def tC (t:Tok):List C:=[.val (nI t.a),.val (nI t.e),.val (nI t.k)]
instance:Cel tC 3:=⟨fun _=>rfl,fun _=>rfl,by decide,fun _ _=>rfl⟩
instance:Fla tC:=⟨fun _=>rfl⟩
instance:Inj tC:=⟨fun a b h=>by
 cases a;cases b
 simp only[tC,List.cons.injEq,C.val.injEq,bP,and_true] at h
 obtain ⟨rfl,rfl,rfl⟩:=h;rfl⟩
theorem C0 (l:List Tok)(k m:Nat)(h:k< l.length):dP (cl tC l) (k*3+1) [.val (nI m)] =some (cl tC (l.set k ⟨(gt l k).a,m,(gt l k).k⟩),.val undef):=by
 have hl:=aA (f:=tC) l
 have e:=lF (f:=tC) l k ⟨(gt l k).a,m,(gt l k).k⟩ h
 simp only[dP]
 rw[if_pos (by simp only[List.length_singleton];omega),←e]
 congr 2
 have hq:l[k]? =some (gt l k):=by simp[gt,List.getD,List.getElem?_eq_getElem h]
 have hat:=yg (f:=tC) l k _ hq
 have hd: (cl tC l).drop (k*3) =tC (gt l k)++(cl tC l).drop (k*3+3):=by
  rw[←hat,←List.drop_drop]
  exact (List.take_append_drop 3 _).symm
 unfold splice
 have hlen: (tC ⟨(gt l k).a,m,(gt l k).k⟩).length=3:=rfl
 rw[hlen]
 have h1: (cl tC l).take (k*3+1) = (cl tC l).take (k*3)++[.val (nI (gt l k).a)]:=by
  rw[List.take_add,hd];rfl
 have h2: (cl tC l).drop (k*3+1+1) = [.val (nI (gt l k).k)]++(cl tC l).drop (k*3+3):=by
  rw[show k*3+1+1=k*3+2 from rfl,←List.drop_drop,hd];rfl
 rw[h1,show k*3+1+[C.val (nI m)].length=k*3+1+1 from rfl,h2]
 simp[tC]
theorem Ia (u:TypeDesc)(y:Nat)(z:List Value)(a e k:Nat)(hz:z.length=3)(h1:z.all (·.oneCell') =true):gN (some ⟨u,3,y,z⟩) 1 [(0,.agg [.val (nI a),.val (nI e),.val (nI k)])] =some (vp (sl tC .full [⟨a,e,k⟩])):=by
 unfold gN
 simp only[hz,h1]
 rw[if_pos ⟨by decide,by decide,trivial,trivial⟩]
 have hr: (bK z 1).length=3:=by simp[bK,hz]
 unfold f7
 have hc:C.cells? (.agg [.val (nI a),.val (nI e),.val (nI k)]) =some [.val (nI a),.val (nI e),.val (nI k)]:=rfl
 simp only[hc]
 rw[if_pos ⟨rfl,by omega⟩]
 unfold f7
 simp only[Option.map_some,splice,Nat.zero_mul,List.take_zero,List.nil_append,Nat.zero_add]
 rw[List.drop_of_length_le (by rw[hr];exact Nat.le_refl _),List.append_nil]
 rfl
theorem Lw (t:Tok):List.map C.noR (tC t) =tC t:=rfl
theorem Lx (a b c:C)(t:Tok):dP [a,b,c] 0 (tC t) =some (tC t,.val undef):=rfl
theorem Ib (u:TypeDesc)(y:Nat)(v:Value)(i:Nat)(h:v.oneCell'=true):gN (some ⟨u,1,y,[v]⟩) 1 [(0,.val (nI i))] =some (vp (sl nC .full [i])):=by
 rw[rp u y 1 v _ h (by decide)];rfl
theorem C1 (x:Tok):dJ (tC x) 2=some (.val (nI x.k)):=rfl
theorem xN (l:List Tok)(k:Nat)(h:k< l.length):dJ (cl tC l) (k*3+2) =some (.val (nI (gt l k).k)):=by
 have:=pF tC l k 2 h (by decide)
 exact this
theorem C2 (l:List Tok)(k:Nat)(h:k< l.length):fG (cl tC l) (k*3) 3=some (.agg (tC (gt l k))):=by
 have:=rC tC l k 0 3 h (by decide)
 rw[Nat.add_zero] at this
 exact this
theorem Ly (fs:Array Field)(b o y:Nat)(z:List Value)(x:Tok):kT (some ⟨.struct fs,3,y,z⟩) b o (some (tC x)) =some (.wr b (fun cells=>dP cells o (tC x)) none):=rfl
theorem Ic (b o:Nat):aB Tryd.prog 143 (.bp b o) 2=some (vp (.bp b (o+2))):= @jQ Tryd.prog 143 2 3 2 _ _ _ _ _ _ GC rfl rfl rfl iF (by decide) b o
theorem Id (b o:Nat):aB Tryd.prog 160 (.bp b o) 1=some (vp (.bp b (o+1))):= @jQ Tryd.prog 160 1 3 1 _ _ _ _ _ _ xP rfl rfl rfl iF (by decide) b o
theorem Ie (xs:List C)(h:2≤xs.length):aB Tryd.prog 160 (.kp xs) 2=some (vp (.kp (xs.drop 2))):= @qz Tryd.prog 160 2 3 2 _ _ _ _ _ _ xP rfl rfl rfl iF (by decide) xs h
attribute [go_sem] C0 Ia C1 Ly Ic Id Ie
attribute [go_sem high] Lw Lx Ib xN C2
end Go.Sx
namespace Go.Sx
open Go.RowKit Go.Proofs
set_option maxRecDepth 100000
set_option maxHeartbeats 8000000
def fT (c:UInt8):Int:=if c=32 then -1 else (kd c:Int)
theorem aQ {p:Prop}(e:p:=by intro KZ hZ;simp -implicitDefEqProofs (disch:=first|omega| (simp only[go_sem,lA,lD,lT] <;>omega) |decide) only[go_sem,↓reduceIte,Nat.reduceEqDiff,reduceCtorEq,Nat.reduceLT,Nat.reduceBEq,Nat.reduceAdd,a1,a2,a3,a4,a5,a6,hy];with_reducible exact hZ):p:=e
theorem dg {p:Prop}(e:p:=by simp -implicitDefEqProofs (disch:=first|omega| (simp only[go_sem,lA,lD,lT] <;>omega) |decide) only[go_sem,↓reduceIte,Nat.reduceEqDiff,reduceCtorEq];all_goals (exact congrArg (fun z=>some (C.val (.int .i64 z))) (by unfold fT kd;((all_goals (try simp only[UInt8.le_iff_toNat_le,←UInt8.toNat_inj,UInt8.reduceToNat,UInt8.reduceOfNat] at a1));(all_goals (try simp only[UInt8.le_iff_toNat_le,←UInt8.toNat_inj,UInt8.reduceToNat,UInt8.reduceOfNat] at a2));(all_goals (try simp only[UInt8.le_iff_toNat_le,←UInt8.toNat_inj,UInt8.reduceToNat,UInt8.reduceOfNat] at a3));(all_goals (try simp only[UInt8.le_iff_toNat_le,←UInt8.toNat_inj,UInt8.reduceToNat,UInt8.reduceOfNat] at a4));(all_goals (try simp only[UInt8.le_iff_toNat_le,←UInt8.toNat_inj,UInt8.reduceToNat,UInt8.reduceOfNat] at a5));(all_goals (try simp only[UInt8.le_iff_toNat_le,←UInt8.toNat_inj,UInt8.reduceToNat,UInt8.reduceOfNat] at a6));(all_goals (try simp only[UInt8.le_iff_toNat_le,←UInt8.toNat_inj,UInt8.reduceToNat,UInt8.reduceOfNat] at hc4));(all_goals (try simp only[UInt8.le_iff_toNat_le,←UInt8.toNat_inj,UInt8.reduceToNat,UInt8.reduceOfNat] at hc26));simp only[UInt8.le_iff_toNat_le,←UInt8.toNat_inj,UInt8.reduceToNat,UInt8.reduceOfNat];(repeat' split);(all_goals first|rfl|omega))))):p:=e
theorem Ru {gl:Nat→C}{M:Nat}{pu:Nat→List C→Option C}(hcx:CxOK (aD gl M pu))(c:UInt8):FC Tryd.prog gl 127 [.val (w8 c)] [] (.val (.int .i64 (fT c))) []:=by
 replace hcx:=hcx.reN (M:=27)
 refine bI (cx:=aD gl 27 pu) (rs:=[.tmp 2]) rfl Tryd.func127 rfl rfl rfl (by simp only[List.length_cons,List.length_nil];decide) (by simp only[go_sem]) ?_
 simp only[cZ,go_sem]
 have a1:=True.intro
 have a2:=True.intro
 have a3:=True.intro
 have a4:=True.intro
 have a5:=True.intro
 have a6:=True.intro
 have hy:=True.intro
 refine Tr.w hcx [] _ [] rfl rfl rfl ?_ aQ
 refine ae fun K1 hK1=>?_
 refine Tr.w hcx [] _ [] rfl rfl rfl ?_ aQ
 refine aw rfl (fun hc4=>?_) (fun hc4=>?_)
 ·
  refine Tr.w hcx [] _ [] rfl rfl rfl ?_ aQ
  exact Tr.ret dg
 refine Tr.skip ?_
 refine hK1 _ ?_
 refine ae fun K2 hK2=>?_
 by_cases a1:UInt8.ofNat 97≤c
 ·
  by_cases a2:c≤UInt8.ofNat 122
  ·
   refine Tr.w hcx [] [some 5,some 6,some 7,some 8,some 9,some 10,some 11,some 12,some 13,some 14,some 15,some 16,some 17,some 18] [] rfl rfl rfl ?_ aQ
   refine bn rfl ?_
   refine Tr.w hcx [] _ [] rfl rfl rfl ?_ aQ
   exact Tr.ret dg
  by_cases a3:UInt8.ofNat 65≤c
  ·
   by_cases a4:c≤UInt8.ofNat 90
   ·
    refine Tr.w hcx [] [some 5,some 6,some 7,some 8,some 9,some 10,some 11,some 12,some 13,some 14,some 15,some 16,some 17,some 18] [] rfl rfl rfl ?_ aQ
    refine bn rfl ?_
    refine Tr.w hcx [] _ [] rfl rfl rfl ?_ aQ
    exact Tr.ret dg
   refine Tr.w hcx [] [some 5,some 6,some 7,some 8,some 9,some 10,some 11,some 12,some 13,some 14,some 15,some 16,some 17,some 18] [] rfl rfl rfl ?_ aQ
   refine aO rfl ?_
   refine Tr.skip ?_
   refine hK2 _ ?_
   refine ae fun K3 hK3=>?_
   by_cases a5:UInt8.ofNat 48≤c
   ·
    by_cases a6:c≤UInt8.ofNat 57
    ·
     refine Tr.w hcx [] [some 19,some 20,some 21,some 22,some 23,some 24] [] rfl rfl rfl ?_ aQ
     refine bn rfl ?_
     refine Tr.w hcx [] _ [] rfl rfl rfl ?_ aQ
     exact Tr.ret dg
    refine Tr.w hcx [] [some 19,some 20,some 21,some 22,some 23,some 24] [] rfl rfl rfl ?_ aQ
    refine aO rfl ?_
    refine Tr.skip ?_
    refine hK3 _ ?_
    refine ae fun K4 hK4=>?_
    refine Tr.w hcx [] _ [] rfl rfl rfl ?_ aQ
    refine aw rfl (fun hc26=>?_) (fun hc26=>?_)
    ·
     refine Tr.w hcx [] _ [] rfl rfl rfl ?_ aQ
     refine Tr.k [2] ?_
     exact Tr.ret dg
    refine Tr.skip ?_
    refine hK4 _ ?_
    refine Tr.k [] ?_
    refine Tr.w hcx [] _ [] rfl rfl rfl ?_ aQ
    exact Tr.ret dg
   refine Tr.w hcx [] [some 19,some 20,some 21,some 22,some 23,some 24] [] rfl rfl rfl ?_ aQ
   refine aO rfl ?_
   refine Tr.skip ?_
   refine hK3 _ ?_
   refine ae fun K5 hK5=>?_
   refine Tr.w hcx [] _ [] rfl rfl rfl ?_ aQ
   refine aw rfl (fun hc26=>?_) (fun hc26=>?_)
   ·
    refine Tr.w hcx [] _ [] rfl rfl rfl ?_ aQ
    refine Tr.k [2] ?_
    exact Tr.ret dg
   refine Tr.skip ?_
   refine hK5 _ ?_
   refine Tr.k [] ?_
   refine Tr.w hcx [] _ [] rfl rfl rfl ?_ aQ
   exact Tr.ret dg
  refine Tr.w hcx [] [some 5,some 6,some 7,some 8,some 9,some 10,some 11,some 12,some 13,some 14,some 15,some 16,some 17,some 18] [] rfl rfl rfl ?_ aQ
  refine aO rfl ?_
  refine Tr.skip ?_
  refine hK2 _ ?_
  refine ae fun K6 hK6=>?_
  by_cases a5:UInt8.ofNat 48≤c
  ·
   by_cases a6:c≤UInt8.ofNat 57
   ·
    refine Tr.w hcx [] [some 19,some 20,some 21,some 22,some 23,some 24] [] rfl rfl rfl ?_ aQ
    refine bn rfl ?_
    refine Tr.w hcx [] _ [] rfl rfl rfl ?_ aQ
    exact Tr.ret dg
   refine Tr.w hcx [] [some 19,some 20,some 21,some 22,some 23,some 24] [] rfl rfl rfl ?_ aQ
   refine aO rfl ?_
   refine Tr.skip ?_
   refine hK6 _ ?_
   refine ae fun K7 hK7=>?_
   refine Tr.w hcx [] _ [] rfl rfl rfl ?_ aQ
   refine aw rfl (fun hc26=>?_) (fun hc26=>?_)
   ·
    refine Tr.w hcx [] _ [] rfl rfl rfl ?_ aQ
    refine Tr.k [2] ?_
    exact Tr.ret dg
   refine Tr.skip ?_
   refine hK7 _ ?_
   refine Tr.k [] ?_
   refine Tr.w hcx [] _ [] rfl rfl rfl ?_ aQ
   exact Tr.ret dg
  refine Tr.w hcx [] [some 19,some 20,some 21,some 22,some 23,some 24] [] rfl rfl rfl ?_ aQ
  refine aO rfl ?_
  refine Tr.skip ?_
  refine hK6 _ ?_
  refine ae fun K8 hK8=>?_
  refine Tr.w hcx [] _ [] rfl rfl rfl ?_ aQ
  refine aw rfl (fun hc26=>?_) (fun hc26=>?_)
  ·
   refine Tr.w hcx [] _ [] rfl rfl rfl ?_ aQ
   refine Tr.k [2] ?_
   exact Tr.ret dg
  refine Tr.skip ?_
  refine hK8 _ ?_
  refine Tr.k [] ?_
  refine Tr.w hcx [] _ [] rfl rfl rfl ?_ aQ
  exact Tr.ret dg
 by_cases a3:UInt8.ofNat 65≤c
 ·
  by_cases a4:c≤UInt8.ofNat 90
  ·
   refine Tr.w hcx [] [some 5,some 6,some 7,some 8,some 9,some 10,some 11,some 12,some 13,some 14,some 15,some 16,some 17,some 18] [] rfl rfl rfl ?_ aQ
   refine bn rfl ?_
   refine Tr.w hcx [] _ [] rfl rfl rfl ?_ aQ
   exact Tr.ret dg
  refine Tr.w hcx [] [some 5,some 6,some 7,some 8,some 9,some 10,some 11,some 12,some 13,some 14,some 15,some 16,some 17,some 18] [] rfl rfl rfl ?_ aQ
  refine aO rfl ?_
  refine Tr.skip ?_
  refine hK2 _ ?_
  refine ae fun K9 hK9=>?_
  by_cases a5:UInt8.ofNat 48≤c
  ·
   by_cases a6:c≤UInt8.ofNat 57
   ·
    refine Tr.w hcx [] [some 19,some 20,some 21,some 22,some 23,some 24] [] rfl rfl rfl ?_ aQ
    refine bn rfl ?_
    refine Tr.w hcx [] _ [] rfl rfl rfl ?_ aQ
    exact Tr.ret dg
   refine Tr.w hcx [] [some 19,some 20,some 21,some 22,some 23,some 24] [] rfl rfl rfl ?_ aQ
   refine aO rfl ?_
   refine Tr.skip ?_
   refine hK9 _ ?_
   refine ae fun K10 hK10=>?_
   refine Tr.w hcx [] _ [] rfl rfl rfl ?_ aQ
   refine aw rfl (fun hc26=>?_) (fun hc26=>?_)
   ·
    refine Tr.w hcx [] _ [] rfl rfl rfl ?_ aQ
    refine Tr.k [2] ?_
    exact Tr.ret dg
   refine Tr.skip ?_
   refine hK10 _ ?_
   refine Tr.k [] ?_
   refine Tr.w hcx [] _ [] rfl rfl rfl ?_ aQ
   exact Tr.ret dg
  refine Tr.w hcx [] [some 19,some 20,some 21,some 22,some 23,some 24] [] rfl rfl rfl ?_ aQ
  refine aO rfl ?_
  refine Tr.skip ?_
  refine hK9 _ ?_
  refine ae fun K11 hK11=>?_
  refine Tr.w hcx [] _ [] rfl rfl rfl ?_ aQ
  refine aw rfl (fun hc26=>?_) (fun hc26=>?_)
  ·
   refine Tr.w hcx [] _ [] rfl rfl rfl ?_ aQ
   refine Tr.k [2] ?_
   exact Tr.ret dg
  refine Tr.skip ?_
  refine hK11 _ ?_
  refine Tr.k [] ?_
  refine Tr.w hcx [] _ [] rfl rfl rfl ?_ aQ
  exact Tr.ret dg
 refine Tr.w hcx [] [some 5,some 6,some 7,some 8,some 9,some 10,some 11,some 12,some 13,some 14,some 15,some 16,some 17,some 18] [] rfl rfl rfl ?_ aQ
 refine aO rfl ?_
 refine Tr.skip ?_
 refine hK2 _ ?_
 refine ae fun K12 hK12=>?_
 by_cases a5:UInt8.ofNat 48≤c
 ·
  by_cases a6:c≤UInt8.ofNat 57
  ·
   refine Tr.w hcx [] [some 19,some 20,some 21,some 22,some 23,some 24] [] rfl rfl rfl ?_ aQ
   refine bn rfl ?_
   refine Tr.w hcx [] _ [] rfl rfl rfl ?_ aQ
   exact Tr.ret dg
  refine Tr.w hcx [] [some 19,some 20,some 21,some 22,some 23,some 24] [] rfl rfl rfl ?_ aQ
  refine aO rfl ?_
  refine Tr.skip ?_
  refine hK12 _ ?_
  refine ae fun K13 hK13=>?_
  refine Tr.w hcx [] _ [] rfl rfl rfl ?_ aQ
  refine aw rfl (fun hc26=>?_) (fun hc26=>?_)
  ·
   refine Tr.w hcx [] _ [] rfl rfl rfl ?_ aQ
   refine Tr.k [2] ?_
   exact Tr.ret dg
  refine Tr.skip ?_
  refine hK13 _ ?_
  refine Tr.k [] ?_
  refine Tr.w hcx [] _ [] rfl rfl rfl ?_ aQ
  exact Tr.ret dg
 refine Tr.w hcx [] [some 19,some 20,some 21,some 22,some 23,some 24] [] rfl rfl rfl ?_ aQ
 refine aO rfl ?_
 refine Tr.skip ?_
 refine hK12 _ ?_
 refine ae fun K14 hK14=>?_
 refine Tr.w hcx [] _ [] rfl rfl rfl ?_ aQ
 refine aw rfl (fun hc26=>?_) (fun hc26=>?_)
 ·
  refine Tr.w hcx [] _ [] rfl rfl rfl ?_ aQ
  refine Tr.k [2] ?_
  exact Tr.ret dg
 refine Tr.skip ?_
 refine hK14 _ ?_
 refine Tr.k [] ?_
 refine Tr.w hcx [] _ [] rfl rfl rfl ?_ aQ
 exact Tr.ret dg
end Go.Sx
namespace Go.Sx
open Go.RowKit Go.Proofs
set_option maxRecDepth 100000
set_option maxHeartbeats 8000000
theorem lr {c:UInt8}:fT c< 0↔c=32:=by unfold fT;split<;>simp_all
theorem kr {c:UInt8}(h:¬fT c< 0):fT c= (kd c:Int):=by
 rw[lr] at h;unfold fT;rw[if_neg h]
theorem pP (n:Nat):Value.int .i64 (n:Int) =nI n:=rfl
def ia (s:List UInt8)(p:Nat):Option UInt8:=if p=0 then none else some (gt s (p - 1))
def iE (p:Nat)(prev:Option UInt8)(out:List Tok)(c:UInt8):List Tok:=
 if c=32 then out else if out≠[]∧kd c< 2∧prev.map kd=some (kd c) then out.dropLast++[⟨(out.getLastD default).a,p+1,(out.getLastD default).k⟩] else out++[⟨p,p+1,kd c⟩]
theorem fa {s:List UInt8}{p:Nat}{out:List Tok}(h:p< s.length)(hr:qv p (ia s p) out (s.drop p) =dO s):qv (p+1) (ia s (p+1)) (iE p (ia s p) out (gt s p)) (s.drop (p+1)) =dO s:=by
 rw[List.drop_eq_getElem_cons h] at hr
 have e:s[p] =gt s p:=by simp[gt,List.getD,List.getElem?_eq_getElem h]
 rw[e] at hr
 have e2:ia s (p+1) =some (gt s p):=by simp[ia]
 rw[e2,←hr];rfl
theorem cw {p:Nat}{q:Option UInt8}{out:List Tok}{c:UInt8}(h:fT c< 0):iE p q out c=out:=if_pos (lr.1 h)
theorem zM {s:List UInt8}{p:Nat}{c:UInt8}(h3:fT c< 2)(h0:¬fT c< 0): (ia s p).map kd=some (kd c)↔0< p∧fT (gt s (p - 1)) =fT c:=by
 have hk:=kr h0
 unfold ia
 by_cases hp:p=0
 . subst hp;simp
 . rw[if_neg hp]
   simp only[Option.map_some,Option.some.injEq]
   have hp':0< p:=by omega
   unfold fT at hk ⊢
   have hc:c≠32:=fun e=>h0 (lr.2 e)
   rw[if_neg hc]
   by_cases hb:gt s (p - 1) =32
   . rw[hb]
     have:kd 32=2:=pD
     have h4:kd c< 2:=by unfold fT at h3;rw[if_neg hc] at h3;omega
     simp only[this,if_true]
     omega
   . rw[if_neg hb];omega
theorem C3 {l:List Tok}(h:0< l.length)(x:Tok):l.set (l.length - 1) x=l.dropLast++[x]:=by
 rw[List.set_eq_take_append_cons_drop,if_pos (by omega),List.dropLast_eq_take,List.drop_of_length_le (by omega)]
theorem If {l:List Tok}(h:0< l.length):gt l (l.length - 1) =l.getLastD default:=by
 unfold gt
 simp[List.getD,List.getLastD_eq_getLast?,List.getLast?_eq_getElem?]
theorem dh {s:List UInt8}{p:Nat}{out:List Tok}{c:UInt8}(h0:¬fT c< 0)(h1:0< out.length)(h2:0< p)(h3:fT c< 2)(h4:fT (gt s (p - 1)) =fT c):
 iE p (ia s p) out c=out.set (out.length - 1) ⟨(gt out (out.length - 1)).a,p+1,(gt out (out.length - 1)).k⟩:=by
 unfold iE
 rw[if_neg (fun e=>h0 (lr.2 e)),if_pos ⟨(by intro e;rw[e] at h1;cases h1),(by have:=kr h0;omega),(zM h3 h0).2 ⟨h2,h4⟩⟩,C3 h1,If h1]
theorem dj {s:List UInt8}{p:Nat}{out:List Tok}{c:UInt8}(h0:¬fT c< 0)(h:¬ (0< out.length∧0< p∧fT c< 2∧fT (gt s (p - 1)) =fT c)):
 iE p (ia s p) out c=out++[⟨p,p+1,kd c⟩]:=by
 unfold iE
 rw[if_neg (fun e=>h0 (lr.2 e)),if_neg]
 rintro ⟨q1,q2,q3⟩
 have h3:fT c< 2:=by have:=kr h0;omega
 have:=(zM h3 h0).1 q3
 exact h ⟨List.length_pos_iff.2 q1,this.1,h3,this.2⟩
theorem gJ {x:Int}(h:x< ((2:Nat):Int)):x< 2:=h
theorem fD (p:Nat)(q:Option UInt8)(out:List Tok)(c:UInt8): (iE p q out c).length≤out.length+1:=by
 unfold iE
 split
 . omega
 . split
   . rename_i h
     have:=List.length_pos_iff.2 h.1
     simp only[List.length_append,List.length_dropLast,List.length_singleton];omega
   . simp
theorem ed {p:Prop}(e:p:=by intro KZ hZ;simp -implicitDefEqProofs (disch:=first|omega| (simp only[go_sem,lA,lD,lT] <;>omega) |decide) only[go_sem,↓reduceIte,Nat.reduceEqDiff,reduceCtorEq,Nat.reduceLT,Nat.reduceBEq,Nat.reduceAdd,h127,Nat.zero_add,List.length_set,b1,b2,b3,hy];with_reducible exact hZ):p:=e
theorem Ig {p:Prop}(e:p:=by simp -implicitDefEqProofs (disch:=first|omega| (simp only[go_sem,lA,lD,lT] <;>omega) |decide) only[go_sem,↓reduceIte,Nat.reduceEqDiff,reduceCtorEq];all_goals (rw[←hr];rfl)):p:=e
theorem Rv {gl:Nat→C}{M:Nat}{pu:Nat→List C→Option C}(hcx:CxOK (aD gl M pu))(h127:∀c:UInt8,pu 127 [.val (w8 c)] =some (.val (.int .i64 (fT c))))(s:List UInt8)(hs:s.length≤1000000):FC Tryd.prog gl 120 [.val (str s)] [] (sl tC .no (dO s)) []:=by
 replace hcx:=hcx.reN (M:=56)
 refine bI (cx:=aD gl 56 pu) (rs:=[.tmp 2]) rfl Tryd.func120 rfl rfl rfl (by simp only[List.length_cons,List.length_nil];decide) (by simp only[go_sem]) ?_
 simp only[cZ,go_sem]
 have b1:=True.intro
 have b2:=True.intro
 have b3:=True.intro
 have hy:=True.intro
 refine Tr.w hcx [] _ [] rfl rfl rfl ?_ ed
 refine Tr.w hcx [] _ [] rfl rfl rfl ?_ ed
 refine ae fun K1 hK1=>?_
 refine Tr.w hcx [] _ [] rfl rfl rfl ?_ ed
 refine Tr.k [0,3,4] ?_
 refine am ?_
 refine Tr.virt ?_
 simp only[List.nil_append]
 refine ux hcx (α:=(Nat×List Tok)) (fun a=>[(0,?v0_1),(3,.gv 0 a.2.length (3,160)),(4,.val (nI a.1))]) (fun a=>[some (cl tC a.2)]) (fun a=>a.1≤s.length∧a.2.length≤a.1∧qv a.1 (ia s a.1) a.2 (s.drop a.1) =dO s) (fun a=>s.length - a.1) ((0,[])) ⟨Nat.zero_le _,Nat.le_refl _,Fm s⟩ ?le_1 ?hh_1 ?bd_1
 case hh_1=>exact rfl
 case le_1=>(simp only[bQ,bl,↓bF,↓reduceIte,Nat.reduceEqDiff,ba,br,bc,bu,bv,and_true,true_and];all_goals (repeat' first|exact CLe.refl _|exact True.intro| (refine bH ?_;first|rfl| (simp only[List.take_zero];done)) |exact cU (by omega) |exact cM (by omega) |exact cN (by omega) |exact cO (by omega) |with_reducible apply And.intro));all_goals first|exact mr 0 (3,160) |exact CLe.refl _
 rintro ⟨i,out⟩ ⟨hi,hlen,hr⟩
 dsimp only at*
 refine ae fun K2 hK2=>?_
 refine Tr.w hcx [] _ [] rfl rfl rfl ?_ ed
 refine aw rfl (fun hc10=>?_) (fun hc10=>?_)
 ·
  refine Tr.skip ?_
  refine hK2 _ ?_
  refine ae fun K3 hK3=>?_
  refine am ?_
  refine Tr.w hcx [1000016] _ [] rfl rfl rfl ?_ ed
  refine Tr.w hcx [1000018] _ [] rfl rfl rfl ?_ ed
  refine ae fun K4 hK4=>?_
  refine Tr.w hcx [] _ [] rfl rfl rfl ?_ ed
  refine aw rfl (fun hc20=>?_) (fun hc20=>?_)
  ·
   refine Tr.exit ?_
   refine hK3 _ ?_
   refine Tr.v hcx [1000012] _ [] rfl rfl rfl ?_ ed
   first
   | ((refine ⟨[0],⟨by decide,by decide,by decide⟩,(i+1,iE i (ia s i) out (gt s i)),⟨⟨hc10,Nat.le_trans (fD _ _ _ _) (Nat.succ_le_succ hlen),fa hc10 hr⟩,by simp only[];omega⟩,?_,by simp only[dD,cB,cd,dA,dB,Option.map_some,Option.map_none,bE,dz,cA,cb,cR,cP,db,du,dv,dw,cS,dx,bX,bY,bZ,b8,b9,ca,cQ,cz,↓reduceIte,Nat.reduceEqDiff,reduceCtorEq,Nat.reduceAdd,Nat.zero_add,Nat.one_ne_zero,Nat.zero_ne_one,dy,dE,ce,cf,dF,cg,cj];first|rw[cw hc20] |rw[dh (s:=s) hc20 b1 b2 (gJ b3) hc39] |rw[dj (s:=s) hc20 (by intro hh;first|exact b1 hh.1|exact b2 hh.2.1|exact b3 hh.2.2.1|exact hc39 hh.2.2.2)]⟩);(simp only[bQ,bl,↓bF,ba,br,bc,bu,bv,and_true,true_and,dD,cB,cd,dA,dB,Option.map_some,Option.map_none,bE,dz,cA,cb,cR,cP,db,du,dv,dw,cS,dx,bX,bY,bZ,b8,b9,ca,cQ,cz,↓reduceIte,Nat.reduceEqDiff,reduceCtorEq,Nat.reduceAdd,Nat.zero_add,Nat.one_ne_zero,Nat.zero_ne_one,dy,dE,ce,cf,dF,cg,cj];all_goals (repeat' first|exact CLe.refl _|exact True.intro| (with_reducible refine And.intro ?_ ?_)));(all_goals first|exact CLe.refl _| (rw[cw hc20];exact CLe.refl _) | (rw[dh (s:=s) hc20 b1 b2 (gJ b3) hc39,List.length_set];exact CLe.refl _) | (rw[dj (s:=s) hc20 (by intro hh;first|exact b1 hh.1|exact b2 hh.2.1|exact b3 hh.2.2.1|exact hc39 hh.2.2.2)];exact CLe.refl _));(done))
   | ((refine ⟨[1],⟨by decide,by decide,by decide⟩,(i+1,iE i (ia s i) out (gt s i)),⟨⟨hc10,Nat.le_trans (fD _ _ _ _) (Nat.succ_le_succ hlen),fa hc10 hr⟩,by simp only[];omega⟩,?_,by simp only[dD,cB,cd,dA,dB,Option.map_some,Option.map_none,bE,dz,cA,cb,cR,cP,db,du,dv,dw,cS,dx,bX,bY,bZ,b8,b9,ca,cQ,cz,↓reduceIte,Nat.reduceEqDiff,reduceCtorEq,Nat.reduceAdd,Nat.zero_add,Nat.one_ne_zero,Nat.zero_ne_one,dy,dE,ce,cf,dF,cg,cj];first|rw[cw hc20] |rw[dh (s:=s) hc20 b1 b2 (gJ b3) hc39] |rw[dj (s:=s) hc20 (by intro hh;first|exact b1 hh.1|exact b2 hh.2.1|exact b3 hh.2.2.1|exact hc39 hh.2.2.2)]⟩);(simp only[bQ,bl,↓bF,ba,br,bc,bu,bv,and_true,true_and,dD,cB,cd,dA,dB,Option.map_some,Option.map_none,bE,dz,cA,cb,cR,cP,db,du,dv,dw,cS,dx,bX,bY,bZ,b8,b9,ca,cQ,cz,↓reduceIte,Nat.reduceEqDiff,reduceCtorEq,Nat.reduceAdd,Nat.zero_add,Nat.one_ne_zero,Nat.zero_ne_one,dy,dE,ce,cf,dF,cg,cj];all_goals (repeat' first|exact CLe.refl _|exact True.intro| (with_reducible refine And.intro ?_ ?_)));(all_goals first|exact CLe.refl _| (rw[cw hc20];exact CLe.refl _) | (rw[dh (s:=s) hc20 b1 b2 (gJ b3) hc39,List.length_set];exact CLe.refl _) | (rw[dj (s:=s) hc20 (by intro hh;first|exact b1 hh.1|exact b2 hh.2.1|exact b3 hh.2.2.1|exact hc39 hh.2.2.2)];exact CLe.refl _));(done))
  refine Tr.skip ?_
  refine hK4 _ ?_
  refine Tr.k [0,3,4,5,6] ?_
  refine ae fun K5 hK5=>?_
  by_cases b1:0< out.length
  ·
   by_cases b2:0< i
   ·
    by_cases b3:fT (gt s i) < ((2:Nat):Int)
    ·
     refine Tr.w hcx [] [some 21,some 22,some 23,some 24,some 25,some 26,some 27,some 28,some 29,some 30,some 31,some 32,some 33,some 34,some 35,some 36,some 37,some 38,some 39] [] rfl rfl rfl ?_ ed
     refine aw rfl (fun hc39=>?_) (fun hc39=>?_)
     ·
      refine Tr.w hcx [] _ [] rfl rfl rfl ?_ ed
      refine Tr.exit ?_
      refine hK3 _ ?_
      refine Tr.k [0,3,4] ?_
      refine Tr.v hcx [1000012] _ [] rfl rfl rfl ?_ ed
      first
      | ((refine ⟨[0],⟨by decide,by decide,by decide⟩,(i+1,iE i (ia s i) out (gt s i)),⟨⟨hc10,Nat.le_trans (fD _ _ _ _) (Nat.succ_le_succ hlen),fa hc10 hr⟩,by simp only[];omega⟩,?_,by simp only[dD,cB,cd,dA,dB,Option.map_some,Option.map_none,bE,dz,cA,cb,cR,cP,db,du,dv,dw,cS,dx,bX,bY,bZ,b8,b9,ca,cQ,cz,↓reduceIte,Nat.reduceEqDiff,reduceCtorEq,Nat.reduceAdd,Nat.zero_add,Nat.one_ne_zero,Nat.zero_ne_one,dy,dE,ce,cf,dF,cg,cj];first|rw[cw hc20] |rw[dh (s:=s) hc20 b1 b2 (gJ b3) hc39] |rw[dj (s:=s) hc20 (by intro hh;first|exact b1 hh.1|exact b2 hh.2.1|exact b3 hh.2.2.1|exact hc39 hh.2.2.2)]⟩);(simp only[bQ,bl,↓bF,ba,br,bc,bu,bv,and_true,true_and,dD,cB,cd,dA,dB,Option.map_some,Option.map_none,bE,dz,cA,cb,cR,cP,db,du,dv,dw,cS,dx,bX,bY,bZ,b8,b9,ca,cQ,cz,↓reduceIte,Nat.reduceEqDiff,reduceCtorEq,Nat.reduceAdd,Nat.zero_add,Nat.one_ne_zero,Nat.zero_ne_one,dy,dE,ce,cf,dF,cg,cj];all_goals (repeat' first|exact CLe.refl _|exact True.intro| (with_reducible refine And.intro ?_ ?_)));(all_goals first|exact CLe.refl _| (rw[cw hc20];exact CLe.refl _) | (rw[dh (s:=s) hc20 b1 b2 (gJ b3) hc39,List.length_set];exact CLe.refl _) | (rw[dj (s:=s) hc20 (by intro hh;first|exact b1 hh.1|exact b2 hh.2.1|exact b3 hh.2.2.1|exact hc39 hh.2.2.2)];exact CLe.refl _));(done))
      | ((refine ⟨[1],⟨by decide,by decide,by decide⟩,(i+1,iE i (ia s i) out (gt s i)),⟨⟨hc10,Nat.le_trans (fD _ _ _ _) (Nat.succ_le_succ hlen),fa hc10 hr⟩,by simp only[];omega⟩,?_,by simp only[dD,cB,cd,dA,dB,Option.map_some,Option.map_none,bE,dz,cA,cb,cR,cP,db,du,dv,dw,cS,dx,bX,bY,bZ,b8,b9,ca,cQ,cz,↓reduceIte,Nat.reduceEqDiff,reduceCtorEq,Nat.reduceAdd,Nat.zero_add,Nat.one_ne_zero,Nat.zero_ne_one,dy,dE,ce,cf,dF,cg,cj];first|rw[cw hc20] |rw[dh (s:=s) hc20 b1 b2 (gJ b3) hc39] |rw[dj (s:=s) hc20 (by intro hh;first|exact b1 hh.1|exact b2 hh.2.1|exact b3 hh.2.2.1|exact hc39 hh.2.2.2)]⟩);(simp only[bQ,bl,↓bF,ba,br,bc,bu,bv,and_true,true_and,dD,cB,cd,dA,dB,Option.map_some,Option.map_none,bE,dz,cA,cb,cR,cP,db,du,dv,dw,cS,dx,bX,bY,bZ,b8,b9,ca,cQ,cz,↓reduceIte,Nat.reduceEqDiff,reduceCtorEq,Nat.reduceAdd,Nat.zero_add,Nat.one_ne_zero,Nat.zero_ne_one,dy,dE,ce,cf,dF,cg,cj];all_goals (repeat' first|exact CLe.refl _|exact True.intro| (with_reducible refine And.intro ?_ ?_)));(all_goals first|exact CLe.refl _| (rw[cw hc20];exact CLe.refl _) | (rw[dh (s:=s) hc20 b1 b2 (gJ b3) hc39,List.length_set];exact CLe.refl _) | (rw[dj (s:=s) hc20 (by intro hh;first|exact b1 hh.1|exact b2 hh.2.1|exact b3 hh.2.2.1|exact hc39 hh.2.2.2)];exact CLe.refl _));(done))
     refine Tr.skip ?_
     refine hK5 _ ?_
     refine Tr.k [0,3,4,5] ?_
     refine lH hcx [54] [47,1000054] _ [] rfl rfl rfl ?_
     simp -implicitDefEqProofs (disch:=first|omega| (simp only[go_sem,lA,lD,lT] <;>omega) |decide) only[go_sem,↓reduceIte,Nat.reduceEqDiff,reduceCtorEq,Nat.reduceLT,Nat.reduceBEq,Nat.reduceAdd,h127,Nat.zero_add,b1,b2,b3,kr hc20,pP]
     refine hK3 _ ?_
     refine Tr.v hcx [1000012] _ [] rfl rfl rfl ?_ ed
     first
     | ((refine ⟨[0],⟨by decide,by decide,by decide⟩,(i+1,iE i (ia s i) out (gt s i)),⟨⟨hc10,Nat.le_trans (fD _ _ _ _) (Nat.succ_le_succ hlen),fa hc10 hr⟩,by simp only[];omega⟩,?_,by simp only[dD,cB,cd,dA,dB,Option.map_some,Option.map_none,bE,dz,cA,cb,cR,cP,db,du,dv,dw,cS,dx,bX,bY,bZ,b8,b9,ca,cQ,cz,↓reduceIte,Nat.reduceEqDiff,reduceCtorEq,Nat.reduceAdd,Nat.zero_add,Nat.one_ne_zero,Nat.zero_ne_one,dy,dE,ce,cf,dF,cg,cj];first|rw[cw hc20] |rw[dh (s:=s) hc20 b1 b2 (gJ b3) hc39] |rw[dj (s:=s) hc20 (by intro hh;first|exact b1 hh.1|exact b2 hh.2.1|exact b3 hh.2.2.1|exact hc39 hh.2.2.2)]⟩);(simp only[bQ,bl,↓bF,ba,br,bc,bu,bv,and_true,true_and,dD,cB,cd,dA,dB,Option.map_some,Option.map_none,bE,dz,cA,cb,cR,cP,db,du,dv,dw,cS,dx,bX,bY,bZ,b8,b9,ca,cQ,cz,↓reduceIte,Nat.reduceEqDiff,reduceCtorEq,Nat.reduceAdd,Nat.zero_add,Nat.one_ne_zero,Nat.zero_ne_one,dy,dE,ce,cf,dF,cg,cj];all_goals (repeat' first|exact CLe.refl _|exact True.intro| (with_reducible refine And.intro ?_ ?_)));(all_goals first|exact CLe.refl _| (rw[cw hc20];exact CLe.refl _) | (rw[dh (s:=s) hc20 b1 b2 (gJ b3) hc39,List.length_set];exact CLe.refl _) | (rw[dj (s:=s) hc20 (by intro hh;first|exact b1 hh.1|exact b2 hh.2.1|exact b3 hh.2.2.1|exact hc39 hh.2.2.2)];exact CLe.refl _));(done))
     | ((refine ⟨[1],⟨by decide,by decide,by decide⟩,(i+1,iE i (ia s i) out (gt s i)),⟨⟨hc10,Nat.le_trans (fD _ _ _ _) (Nat.succ_le_succ hlen),fa hc10 hr⟩,by simp only[];omega⟩,?_,by simp only[dD,cB,cd,dA,dB,Option.map_some,Option.map_none,bE,dz,cA,cb,cR,cP,db,du,dv,dw,cS,dx,bX,bY,bZ,b8,b9,ca,cQ,cz,↓reduceIte,Nat.reduceEqDiff,reduceCtorEq,Nat.reduceAdd,Nat.zero_add,Nat.one_ne_zero,Nat.zero_ne_one,dy,dE,ce,cf,dF,cg,cj];first|rw[cw hc20] |rw[dh (s:=s) hc20 b1 b2 (gJ b3) hc39] |rw[dj (s:=s) hc20 (by intro hh;first|exact b1 hh.1|exact b2 hh.2.1|exact b3 hh.2.2.1|exact hc39 hh.2.2.2)]⟩);(simp only[bQ,bl,↓bF,ba,br,bc,bu,bv,and_true,true_and,dD,cB,cd,dA,dB,Option.map_some,Option.map_none,bE,dz,cA,cb,cR,cP,db,du,dv,dw,cS,dx,bX,bY,bZ,b8,b9,ca,cQ,cz,↓reduceIte,Nat.reduceEqDiff,reduceCtorEq,Nat.reduceAdd,Nat.zero_add,Nat.one_ne_zero,Nat.zero_ne_one,dy,dE,ce,cf,dF,cg,cj];all_goals (repeat' first|exact CLe.refl _|exact True.intro| (with_reducible refine And.intro ?_ ?_)));(all_goals first|exact CLe.refl _| (rw[cw hc20];exact CLe.refl _) | (rw[dh (s:=s) hc20 b1 b2 (gJ b3) hc39,List.length_set];exact CLe.refl _) | (rw[dj (s:=s) hc20 (by intro hh;first|exact b1 hh.1|exact b2 hh.2.1|exact b3 hh.2.2.1|exact hc39 hh.2.2.2)];exact CLe.refl _));(done))
    refine Tr.w hcx [] [some 21,some 22,some 23,some 24,some 25,some 26,some 27,some 28,some 29,some 30,some 31,some 32,some 33,some 34,some 35,some 36,some 37,some 38,some 39] [] rfl rfl rfl ?_ ed
    refine aO rfl ?_
    refine Tr.skip ?_
    refine hK5 _ ?_
    refine Tr.k [0,3,4,5] ?_
    refine lH hcx [54] [47,1000054] _ [] rfl rfl rfl ?_
    simp -implicitDefEqProofs (disch:=first|omega| (simp only[go_sem,lA,lD,lT] <;>omega) |decide) only[go_sem,↓reduceIte,Nat.reduceEqDiff,reduceCtorEq,Nat.reduceLT,Nat.reduceBEq,Nat.reduceAdd,h127,Nat.zero_add,b1,b2,b3,kr hc20,pP]
    refine hK3 _ ?_
    refine Tr.v hcx [1000012] _ [] rfl rfl rfl ?_ ed
    first
    | ((refine ⟨[0],⟨by decide,by decide,by decide⟩,(i+1,iE i (ia s i) out (gt s i)),⟨⟨hc10,Nat.le_trans (fD _ _ _ _) (Nat.succ_le_succ hlen),fa hc10 hr⟩,by simp only[];omega⟩,?_,by simp only[dD,cB,cd,dA,dB,Option.map_some,Option.map_none,bE,dz,cA,cb,cR,cP,db,du,dv,dw,cS,dx,bX,bY,bZ,b8,b9,ca,cQ,cz,↓reduceIte,Nat.reduceEqDiff,reduceCtorEq,Nat.reduceAdd,Nat.zero_add,Nat.one_ne_zero,Nat.zero_ne_one,dy,dE,ce,cf,dF,cg,cj];first|rw[cw hc20] |rw[dh (s:=s) hc20 b1 b2 (gJ b3) hc39] |rw[dj (s:=s) hc20 (by intro hh;first|exact b1 hh.1|exact b2 hh.2.1|exact b3 hh.2.2.1|exact hc39 hh.2.2.2)]⟩);(simp only[bQ,bl,↓bF,ba,br,bc,bu,bv,and_true,true_and,dD,cB,cd,dA,dB,Option.map_some,Option.map_none,bE,dz,cA,cb,cR,cP,db,du,dv,dw,cS,dx,bX,bY,bZ,b8,b9,ca,cQ,cz,↓reduceIte,Nat.reduceEqDiff,reduceCtorEq,Nat.reduceAdd,Nat.zero_add,Nat.one_ne_zero,Nat.zero_ne_one,dy,dE,ce,cf,dF,cg,cj];all_goals (repeat' first|exact CLe.refl _|exact True.intro| (with_reducible refine And.intro ?_ ?_)));(all_goals first|exact CLe.refl _| (rw[cw hc20];exact CLe.refl _) | (rw[dh (s:=s) hc20 b1 b2 (gJ b3) hc39,List.length_set];exact CLe.refl _) | (rw[dj (s:=s) hc20 (by intro hh;first|exact b1 hh.1|exact b2 hh.2.1|exact b3 hh.2.2.1|exact hc39 hh.2.2.2)];exact CLe.refl _));(done))
    | ((refine ⟨[1],⟨by decide,by decide,by decide⟩,(i+1,iE i (ia s i) out (gt s i)),⟨⟨hc10,Nat.le_trans (fD _ _ _ _) (Nat.succ_le_succ hlen),fa hc10 hr⟩,by simp only[];omega⟩,?_,by simp only[dD,cB,cd,dA,dB,Option.map_some,Option.map_none,bE,dz,cA,cb,cR,cP,db,du,dv,dw,cS,dx,bX,bY,bZ,b8,b9,ca,cQ,cz,↓reduceIte,Nat.reduceEqDiff,reduceCtorEq,Nat.reduceAdd,Nat.zero_add,Nat.one_ne_zero,Nat.zero_ne_one,dy,dE,ce,cf,dF,cg,cj];first|rw[cw hc20] |rw[dh (s:=s) hc20 b1 b2 (gJ b3) hc39] |rw[dj (s:=s) hc20 (by intro hh;first|exact b1 hh.1|exact b2 hh.2.1|exact b3 hh.2.2.1|exact hc39 hh.2.2.2)]⟩);(simp only[bQ,bl,↓bF,ba,br,bc,bu,bv,and_true,true_and,dD,cB,cd,dA,dB,Option.map_some,Option.map_none,bE,dz,cA,cb,cR,cP,db,du,dv,dw,cS,dx,bX,bY,bZ,b8,b9,ca,cQ,cz,↓reduceIte,Nat.reduceEqDiff,reduceCtorEq,Nat.reduceAdd,Nat.zero_add,Nat.one_ne_zero,Nat.zero_ne_one,dy,dE,ce,cf,dF,cg,cj];all_goals (repeat' first|exact CLe.refl _|exact True.intro| (with_reducible refine And.intro ?_ ?_)));(all_goals first|exact CLe.refl _| (rw[cw hc20];exact CLe.refl _) | (rw[dh (s:=s) hc20 b1 b2 (gJ b3) hc39,List.length_set];exact CLe.refl _) | (rw[dj (s:=s) hc20 (by intro hh;first|exact b1 hh.1|exact b2 hh.2.1|exact b3 hh.2.2.1|exact hc39 hh.2.2.2)];exact CLe.refl _));(done))
   refine Tr.w hcx [] [some 21,some 22,some 23,some 24,some 25,some 26,some 27,some 28,some 29,some 30,some 31,some 32,some 33,some 34,some 35,some 36,some 37,some 38,some 39] [] rfl rfl rfl ?_ ed
   refine aO rfl ?_
   refine Tr.skip ?_
   refine hK5 _ ?_
   refine Tr.k [0,3,4,5] ?_
   refine lH hcx [54] [47,1000054] _ [] rfl rfl rfl ?_
   simp -implicitDefEqProofs (disch:=first|omega| (simp only[go_sem,lA,lD,lT] <;>omega) |decide) only[go_sem,↓reduceIte,Nat.reduceEqDiff,reduceCtorEq,Nat.reduceLT,Nat.reduceBEq,Nat.reduceAdd,h127,Nat.zero_add,b1,b2,kr hc20,pP]
   refine hK3 _ ?_
   refine Tr.v hcx [1000012] _ [] rfl rfl rfl ?_ ed
   first
   | ((refine ⟨[0],⟨by decide,by decide,by decide⟩,(i+1,iE i (ia s i) out (gt s i)),⟨⟨hc10,Nat.le_trans (fD _ _ _ _) (Nat.succ_le_succ hlen),fa hc10 hr⟩,by simp only[];omega⟩,?_,by simp only[dD,cB,cd,dA,dB,Option.map_some,Option.map_none,bE,dz,cA,cb,cR,cP,db,du,dv,dw,cS,dx,bX,bY,bZ,b8,b9,ca,cQ,cz,↓reduceIte,Nat.reduceEqDiff,reduceCtorEq,Nat.reduceAdd,Nat.zero_add,Nat.one_ne_zero,Nat.zero_ne_one,dy,dE,ce,cf,dF,cg,cj];first|rw[cw hc20] |rw[dh (s:=s) hc20 b1 b2 (gJ b3) hc39] |rw[dj (s:=s) hc20 (by intro hh;first|exact b1 hh.1|exact b2 hh.2.1|exact b3 hh.2.2.1|exact hc39 hh.2.2.2)]⟩);(simp only[bQ,bl,↓bF,ba,br,bc,bu,bv,and_true,true_and,dD,cB,cd,dA,dB,Option.map_some,Option.map_none,bE,dz,cA,cb,cR,cP,db,du,dv,dw,cS,dx,bX,bY,bZ,b8,b9,ca,cQ,cz,↓reduceIte,Nat.reduceEqDiff,reduceCtorEq,Nat.reduceAdd,Nat.zero_add,Nat.one_ne_zero,Nat.zero_ne_one,dy,dE,ce,cf,dF,cg,cj];all_goals (repeat' first|exact CLe.refl _|exact True.intro| (with_reducible refine And.intro ?_ ?_)));(all_goals first|exact CLe.refl _| (rw[cw hc20];exact CLe.refl _) | (rw[dh (s:=s) hc20 b1 b2 (gJ b3) hc39,List.length_set];exact CLe.refl _) | (rw[dj (s:=s) hc20 (by intro hh;first|exact b1 hh.1|exact b2 hh.2.1|exact b3 hh.2.2.1|exact hc39 hh.2.2.2)];exact CLe.refl _));(done))
   | ((refine ⟨[1],⟨by decide,by decide,by decide⟩,(i+1,iE i (ia s i) out (gt s i)),⟨⟨hc10,Nat.le_trans (fD _ _ _ _) (Nat.succ_le_succ hlen),fa hc10 hr⟩,by simp only[];omega⟩,?_,by simp only[dD,cB,cd,dA,dB,Option.map_some,Option.map_none,bE,dz,cA,cb,cR,cP,db,du,dv,dw,cS,dx,bX,bY,bZ,b8,b9,ca,cQ,cz,↓reduceIte,Nat.reduceEqDiff,reduceCtorEq,Nat.reduceAdd,Nat.zero_add,Nat.one_ne_zero,Nat.zero_ne_one,dy,dE,ce,cf,dF,cg,cj];first|rw[cw hc20] |rw[dh (s:=s) hc20 b1 b2 (gJ b3) hc39] |rw[dj (s:=s) hc20 (by intro hh;first|exact b1 hh.1|exact b2 hh.2.1|exact b3 hh.2.2.1|exact hc39 hh.2.2.2)]⟩);(simp only[bQ,bl,↓bF,ba,br,bc,bu,bv,and_true,true_and,dD,cB,cd,dA,dB,Option.map_some,Option.map_none,bE,dz,cA,cb,cR,cP,db,du,dv,dw,cS,dx,bX,bY,bZ,b8,b9,ca,cQ,cz,↓reduceIte,Nat.reduceEqDiff,reduceCtorEq,Nat.reduceAdd,Nat.zero_add,Nat.one_ne_zero,Nat.zero_ne_one,dy,dE,ce,cf,dF,cg,cj];all_goals (repeat' first|exact CLe.refl _|exact True.intro| (with_reducible refine And.intro ?_ ?_)));(all_goals first|exact CLe.refl _| (rw[cw hc20];exact CLe.refl _) | (rw[dh (s:=s) hc20 b1 b2 (gJ b3) hc39,List.length_set];exact CLe.refl _) | (rw[dj (s:=s) hc20 (by intro hh;first|exact b1 hh.1|exact b2 hh.2.1|exact b3 hh.2.2.1|exact hc39 hh.2.2.2)];exact CLe.refl _));(done))
  refine Tr.w hcx [] [some 21,some 22,some 23,some 24,some 25,some 26,some 27,some 28,some 29,some 30,some 31,some 32,some 33,some 34,some 35,some 36,some 37,some 38,some 39] [] rfl rfl rfl ?_ ed
  refine aO rfl ?_
  refine Tr.skip ?_
  refine hK5 _ ?_
  refine Tr.k [0,3,4,5] ?_
  refine lH hcx [54] [47,1000054] _ [] rfl rfl rfl ?_
  simp -implicitDefEqProofs (disch:=first|omega| (simp only[go_sem,lA,lD,lT] <;>omega) |decide) only[go_sem,↓reduceIte,Nat.reduceEqDiff,reduceCtorEq,Nat.reduceLT,Nat.reduceBEq,Nat.reduceAdd,h127,Nat.zero_add,b1,kr hc20,pP]
  refine hK3 _ ?_
  refine Tr.v hcx [1000012] _ [] rfl rfl rfl ?_ ed
  first
  | ((refine ⟨[0],⟨by decide,by decide,by decide⟩,(i+1,iE i (ia s i) out (gt s i)),⟨⟨hc10,Nat.le_trans (fD _ _ _ _) (Nat.succ_le_succ hlen),fa hc10 hr⟩,by simp only[];omega⟩,?_,by simp only[dD,cB,cd,dA,dB,Option.map_some,Option.map_none,bE,dz,cA,cb,cR,cP,db,du,dv,dw,cS,dx,bX,bY,bZ,b8,b9,ca,cQ,cz,↓reduceIte,Nat.reduceEqDiff,reduceCtorEq,Nat.reduceAdd,Nat.zero_add,Nat.one_ne_zero,Nat.zero_ne_one,dy,dE,ce,cf,dF,cg,cj];first|rw[cw hc20] |rw[dh (s:=s) hc20 b1 b2 (gJ b3) hc39] |rw[dj (s:=s) hc20 (by intro hh;first|exact b1 hh.1|exact b2 hh.2.1|exact b3 hh.2.2.1|exact hc39 hh.2.2.2)]⟩);(simp only[bQ,bl,↓bF,ba,br,bc,bu,bv,and_true,true_and,dD,cB,cd,dA,dB,Option.map_some,Option.map_none,bE,dz,cA,cb,cR,cP,db,du,dv,dw,cS,dx,bX,bY,bZ,b8,b9,ca,cQ,cz,↓reduceIte,Nat.reduceEqDiff,reduceCtorEq,Nat.reduceAdd,Nat.zero_add,Nat.one_ne_zero,Nat.zero_ne_one,dy,dE,ce,cf,dF,cg,cj];all_goals (repeat' first|exact CLe.refl _|exact True.intro| (with_reducible refine And.intro ?_ ?_)));(all_goals first|exact CLe.refl _| (rw[cw hc20];exact CLe.refl _) | (rw[dh (s:=s) hc20 b1 b2 (gJ b3) hc39,List.length_set];exact CLe.refl _) | (rw[dj (s:=s) hc20 (by intro hh;first|exact b1 hh.1|exact b2 hh.2.1|exact b3 hh.2.2.1|exact hc39 hh.2.2.2)];exact CLe.refl _));(done))
  | ((refine ⟨[1],⟨by decide,by decide,by decide⟩,(i+1,iE i (ia s i) out (gt s i)),⟨⟨hc10,Nat.le_trans (fD _ _ _ _) (Nat.succ_le_succ hlen),fa hc10 hr⟩,by simp only[];omega⟩,?_,by simp only[dD,cB,cd,dA,dB,Option.map_some,Option.map_none,bE,dz,cA,cb,cR,cP,db,du,dv,dw,cS,dx,bX,bY,bZ,b8,b9,ca,cQ,cz,↓reduceIte,Nat.reduceEqDiff,reduceCtorEq,Nat.reduceAdd,Nat.zero_add,Nat.one_ne_zero,Nat.zero_ne_one,dy,dE,ce,cf,dF,cg,cj];first|rw[cw hc20] |rw[dh (s:=s) hc20 b1 b2 (gJ b3) hc39] |rw[dj (s:=s) hc20 (by intro hh;first|exact b1 hh.1|exact b2 hh.2.1|exact b3 hh.2.2.1|exact hc39 hh.2.2.2)]⟩);(simp only[bQ,bl,↓bF,ba,br,bc,bu,bv,and_true,true_and,dD,cB,cd,dA,dB,Option.map_some,Option.map_none,bE,dz,cA,cb,cR,cP,db,du,dv,dw,cS,dx,bX,bY,bZ,b8,b9,ca,cQ,cz,↓reduceIte,Nat.reduceEqDiff,reduceCtorEq,Nat.reduceAdd,Nat.zero_add,Nat.one_ne_zero,Nat.zero_ne_one,dy,dE,ce,cf,dF,cg,cj];all_goals (repeat' first|exact CLe.refl _|exact True.intro| (with_reducible refine And.intro ?_ ?_)));(all_goals first|exact CLe.refl _| (rw[cw hc20];exact CLe.refl _) | (rw[dh (s:=s) hc20 b1 b2 (gJ b3) hc39,List.length_set];exact CLe.refl _) | (rw[dj (s:=s) hc20 (by intro hh;first|exact b1 hh.1|exact b2 hh.2.1|exact b3 hh.2.2.1|exact hc39 hh.2.2.2)];exact CLe.refl _));(done))
 have hie:i=s.length:=by omega
 subst hie
 rw[List.drop_length] at hr
 refine Tr.exit ?_
 refine hK1 _ ?_
 refine Tr.w hcx [1000055] _ [] rfl rfl rfl ?_ ed
 refine Bj hcx 0 (cl tC out) (by simp only[go_sem]) (Nat.zero_le _) (fun j hj=>absurd hj (Nat.not_lt_zero j)) ?_
 simp only[kV,pv,Bn,lK,wW,wX,lL,↓reduceIte]
 exact Tr.ret Ig
end Go.Sx
