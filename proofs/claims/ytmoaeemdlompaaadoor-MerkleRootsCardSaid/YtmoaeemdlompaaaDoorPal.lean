/-
   And what follows.
-/
import Derived.Test.YtmoaeemdlompaaaDoorProg
import Derived.KernelRfl
import Derived.Test.YtmoaeemdlompaaaDoorPak
set_option linter.unusedSimpArgs false
set_option linter.unusedVariables false
namespace Go.Sx
open Go.RowKit Go.Proofs
theorem rJ:td Tryd.prog 3=some ⟨.int .i64,1,8,[.int .i64 0]⟩:=by kernel_rfl
theorem Nn:td Tryd.prog 4=some ⟨.bool,1,1,[.bool false]⟩:=by kernel_rfl
theorem No:td Tryd.prog 5=some ⟨.int .u8,1,1,[.int .u8 0]⟩:=by kernel_rfl
theorem rK:td Tryd.prog 9=some ⟨.string,1,16,[.string ⟨#[]⟩]⟩:=by kernel_rfl
theorem Np:td Tryd.prog 22=some ⟨.slice 3,1,24,[.slice none 0 0]⟩:=by kernel_rfl
theorem Nq:td Tryd.prog 23=some ⟨.slice 97,1,24,[.slice none 0 0]⟩:=by kernel_rfl
theorem Vq:td Tryd.prog 24=some ⟨.slice 75,1,24,[.slice none 0 0]⟩:=by kernel_rfl
theorem Vr:td Tryd.prog 27=some ⟨.slice 24,1,24,[.slice none 0 0]⟩:=by kernel_rfl
theorem Nr:td Tryd.prog 29=some ⟨.array 16 5,16,16,List.replicate 16 (.int .u8 0)⟩:=by kernel_rfl
theorem ur:td Tryd.prog 33=some ⟨.slice 41,1,24,[.slice none 0 0]⟩:=by kernel_rfl
theorem Vs:td Tryd.prog 39=some ⟨.slice 5,1,24,[.slice none 0 0]⟩:=by kernel_rfl
theorem qT:td Tryd.prog 41=some ⟨.struct #[Field.mk "Key" 9 0 false "" "" 0,Field.mk "Value" 9 1 false "" "" 16],2,32,[.string ⟨#[]⟩,.string ⟨#[]⟩]⟩ :=by kernel_rfl
theorem Ns:td Tryd.prog 47=some ⟨.slice 9,1,24,[.slice none 0 0]⟩:=by kernel_rfl
theorem Ct:td Tryd.prog 48=some ⟨.slice 29,1,24,[.slice none 0 0]⟩:=by kernel_rfl
theorem lZ:td Tryd.prog 50=some ⟨.struct #[Field.mk "First" 3 0 false "" "" 0,Field.mk "Size" 3 1 false "" "" 8,Field.mk "Leaves" 33 2 false "" "" 16,Field.mk "Sides" 48 3 false "" "" 40],4,64,[.int .i64 0,.int .i64 0,.slice none 0 0,.slice none 0 0]⟩ :=by kernel_rfl
theorem ye:td Tryd.prog 75=some ⟨.struct #[Field.mk "Key" 9 0 false "" "" 0,Field.mk "Value" 9 1 false "" "" 16],2,32,[.string ⟨#[]⟩,.string ⟨#[]⟩]⟩ :=by kernel_rfl
theorem Nt:td Tryd.prog 97=some ⟨.array 2 9,2,32,List.replicate 2 (.string ⟨#[]⟩)⟩:=by kernel_rfl
theorem pq:td Tryd.prog 102=some ⟨.struct #[Field.mk "Texts" 47 0 false "" "" 0,Field.mk "Sides" 48 1 false "" "" 24,Field.mk "Used" 3 2 false "" "" 48,Field.mk "Short" 4 3 false "" "" 56],4,64,[.slice none 0 0,.slice none 0 0,.int .i64 0,.bool false]⟩ :=by kernel_rfl
theorem Gp:td Tryd.prog 116=some ⟨.int .u64,1,8,[.int .u64 0]⟩:=by kernel_rfl
theorem RC:td Tryd.prog 141=some ⟨.array 32 5,32,32,List.replicate 32 (.int .u8 0)⟩:=by kernel_rfl
theorem yf:td Tryd.prog 151=some ⟨.int .u32,1,4,[.int .u32 0]⟩:=by kernel_rfl
theorem Gq:td Tryd.prog 152=some ⟨.array 8 151,8,32,List.replicate 8 (.int .u32 0)⟩:=by kernel_rfl
theorem Gr:td Tryd.prog 153=some ⟨.array 64 5,64,64,List.replicate 64 (.int .u8 0)⟩:=by kernel_rfl
theorem tz:td Tryd.prog 155=some ⟨.struct #[Field.mk "state" 152 0 false "" "passim/hash" 0,Field.mk "block" 153 8 false "" "passim/hash" 32,Field.mk "n" 116 72 false "" "passim/hash" 96],73,104,List.replicate 8 (.int .u32 0)++(List.replicate 64 (.int .u8 0)++[.int .u64 0])⟩ :=by kernel_rfl
theorem RD:td Tryd.prog 160=some ⟨.int .u64,1,8,[.int .u64 0]⟩:=by kernel_rfl
theorem yg:td Tryd.prog 162=some ⟨.array 64 151,64,256,List.replicate 64 (.int .u32 0)⟩:=by kernel_rfl
theorem RE:td Tryd.prog 166=some ⟨.array 4 151,4,16,List.replicate 4 (.int .u32 0)⟩:=by kernel_rfl
attribute [go_sem] rJ Nn No rK Np Nq Vq Vr Nr ur Vs qT Ns Ct lZ ye Nt pq Gp RC yf Gq Gr tz RD yg RE
def kc:List (BitVec 32):=[0x428a2f98,0x71374491,0xb5c0fbcf,0xe9b5dba5,0x3956c25b,0x59f111f1,0x923f82a4,0xab1c5ed5,0xd807aa98,0x12835b01,0x243185be,0x550c7dc3,0x72be5d74,0x80deb1fe,0x9bdc06a7,0xc19bf174,0xe49b69c1,0xefbe4786,0x0fc19dc6,0x240ca1cc,0x2de92c6f,0x4a7484aa,0x5cb0a9dc,0x76f988da,0x983e5152,0xa831c66d,0xb00327c8,0xbf597fc7,0xc6e00bf3,0xd5a79147,0x06ca6351,0x14292967,0x27b70a85,0x2e1b2138,0x4d2c6dfc,0x53380d13,0x650a7354,0x766a0abb,0x81c2c92e,0x92722c85,0xa2bfe8a1,0xa81a664b,0xc24b8b70,0xc76c51a3,0xd192e819,0xd6990624,0xf40e3585,0x106aa070,0x19a4c116,0x1e376c08,0x2748774c,0x34b0bcb5,0x391c0cb3,0x4ed8aa4a,0x5b9cca4f,0x682e6ff3,0x748f82ee,0x78a5636f,0x84c87814,0x8cc70208,0x90befffa,0xa4506ceb,0xbef9a3f7,0xc67178f2]
noncomputable def ut:Nat→C:=fun g=>if g=0∨g=2 then .kp (cl wC kc) else .top
noncomputable def ao (gl:Nat→C)(M:Nat)(pu:Nat→List C→Option C):Cx:=⟨Tryd.prog,M,gl,pu,fun _ _ _=>none,fun _=>false,fun _ _=>false,true⟩
theorem Nu (P:Program)(N:Nat)(gl:Nat→C)(pu:Nat→List C→Option C)(hp:Nat→List C→Hp→Option (C×Hp))(km:TypeId→Value→Bool)(d:Option Nat):jx ⟨P,N,gl,pu,hp,fun _=>false,km,true⟩ d=false:=by cases d<;>rfl
theorem Nv (gl:Nat→C)(M:Nat)(pu:Nat→List C→Option C)(d:Option Nat):jx (ao gl M pu) d=false:=by cases d<;>rfl
theorem Gs (gl:Nat→C)(M:Nat)(pu:Nat→List C→Option C): (ao gl M pu).P=Tryd.prog:=rfl
theorem RF (gl:Nat→C)(M:Nat)(pu:Nat→List C→Option C): (ao gl M pu).N=M:=rfl
theorem Nw (gl:Nat→C)(M:Nat)(pu:Nat→List C→Option C): (ao gl M pu).pu=pu:=rfl
theorem Nx (gl:Nat→C)(M:Nat)(pu:Nat→List C→Option C): (ao gl M pu).hp=fun _ _ _=>none:=rfl
theorem Ny (gl:Nat→C)(M:Nat)(pu:Nat→List C→Option C): (ao gl M pu).gl=gl:=rfl
theorem RG:ut 0= .kp (cl wC kc):=rfl
theorem RH:ut 2= .kp (cl wC kc):=rfl
theorem dR {gl:Nat→C}{M:Nat}{pu:Nat→List C→Option C}: (ao gl M pu).P.follows .mixedOrders=true:=by
 rw[Gs];kernel_rfl
def i2 (x:BitVec 32)(k:Nat):BitVec 32:=x<<< k|||x>>> (32 - k)
def rr (x:BitVec 32)(n:Nat):BitVec 32:=x>>>n|||x<<< (32 - n)
theorem gL (x:BitVec 32)(n m:Nat)(h:n=32 - m∧0< m∧m< 32):i2 x n=rr x m:=by
 unfold i2 rr
 obtain ⟨h1,h2,h3⟩:=h
 subst h1
 rw[BitVec.or_comm];congr 2;omega
theorem Ad:∀g,ah 0 (ut g) =true:=fun g=>by
 unfold ut;split
 . exact au wC 0 kc
 . rfl
theorem Ae (x:BitVec 32):i2 x 25=rr x 7:=gL x 25 7 (by omega)
theorem Af (x:BitVec 32):i2 x 14=rr x 18:=gL x 14 18 (by omega)
theorem Ag (x:BitVec 32):i2 x 15=rr x 17:=gL x 15 17 (by omega)
theorem Ah (x:BitVec 32):i2 x 13=rr x 19:=gL x 13 19 (by omega)
def bw (b:UInt8):BitVec 32:=b.toBitVec.setWidth 32
def tA (b:List UInt8)(t:Nat):BitVec 32:=bw (gt b (4*t)) <<< 24|||bw (gt b (4*t+1)) <<< 16|||bw (gt b (4*t+2)) <<< 8|||bw (gt b (4*t+3))
def aN (b:List UInt8):Nat→List (BitVec 32)
 |0=>[]
 |t+1=>aN b t++[if t< 16 then tA b t else
   gt (aN b t) (t - 16)+(rr (gt (aN b t) (t - 15)) 7 ^^^ rr (gt (aN b t) (t - 15)) 18 ^^^ gt (aN b t) (t - 15) >>>3)+gt (aN b t) (t - 7)+
    (rr (gt (aN b t) (t - 2)) 17 ^^^ rr (gt (aN b t) (t - 2)) 19 ^^^ gt (aN b t) (t - 2) >>>10)]
theorem b7 (b:List UInt8):∀t,(aN b t).length=t
 |0=>rfl
 |t+1=>by simp[aN,b7 b t]
def jS (l:List UInt8):BitVec 32:=l.foldl (fun a x=>a<<< 8|||bw x) 0
theorem Ai (l:List UInt8)(x:UInt8):jS (l++[x]) =jS l<<< 8|||bw x:=by simp[jS]
theorem Aj (b:List UInt8)(t:Nat)(h:4*t+4≤b.length):jS ((b.drop (4*t)).take 4) =tA b t:=by
 have e: (b.drop (4*t)).take 4= [gt b (4*t),gt b (4*t+1),gt b (4*t+2),gt b (4*t+3)]:=by
  apply List.ext_getElem?
  intro i
  rw[List.getElem?_take,List.getElem?_drop]
  rcases i with _|_|_|_|i<;>simp[gt,List.getD] <;>first| (rw[List.getElem?_eq_getElem (by omega)];simp) |omega
 rw[e]
 simp only[jS,List.foldl_cons,List.foldl_nil,tA]
 have z:∀x:BitVec 32,(0:BitVec 32) <<< 8|||x=x:=fun x=>by simp
 rw[z]
 simp only[BitVec.shiftLeft_or_distrib,←BitVec.shiftLeft_add]
theorem Cu (b:List UInt8)(t:Nat)(h:t< 64): [some (cl wC (List.replicate 64 0)),some (cl wC (aN b t++List.replicate (64 - t) 0))] = [some (cl wC (List.replicate 64 0)),some (cl wC (aN b t++jS (((b.drop (4*t)).take 4).take 0)::List.replicate (63 - t) 0))]:=by
 have e:64 - t= (63 - t)+1:=by omega
 rw[e,List.replicate_succ];rfl
theorem Ak (b:List UInt8)(t j:Nat)(h:j< ((b.drop (4*t)).take 4).length)(h2:t< 64): [some (cl wC (List.replicate 64 0)),some (cl wC (aN b t++(jS (((b.drop (4*t)).take 4).take j) <<< 8|||bw (gt ((b.drop (4*t)).take 4) j))::List.replicate (63 - t) 0))] = [some (cl wC (List.replicate 64 0)),some (cl wC (aN b t++jS (((b.drop (4*t)).take 4).take (j+1))::List.replicate (63 - t) 0))]:=by
 rw[dG _ _ h,Ai]
theorem nS (b:List UInt8)(t:Nat)(hb:b.length=64)(h:t< 16): [some (cl wC (List.replicate 64 0)),some (cl wC (aN b t++jS (((b.drop (4*t)).take 4).take 4)::List.replicate (63 - t) 0))] = [some (cl wC (List.replicate 64 0)),some (cl wC (aN b (t+1)++List.replicate (64 - (t+1)) 0))]:=by
 have e:64 - (t+1) =63 - t:=by omega
 rw[e,List.take_take,Nat.min_self,Aj b t (by omega)]
 simp only[aN,h,if_true,List.append_assoc,List.cons_append,List.nil_append]
theorem nT (b:List UInt8)(t:Nat)(h:¬t< 16):
 [some (cl wC (List.replicate 64 0)),some (cl wC (aN b t++(gt (aN b t) (t - 16)+(rr (gt (aN b t) (t - 15)) 7 ^^^ rr (gt (aN b t) (t - 15)) 18 ^^^ gt (aN b t) (t - 15) >>>3)+gt (aN b t) (t - 7)+
   (rr (gt (aN b t) (t - 2)) 17 ^^^ rr (gt (aN b t) (t - 2)) 19 ^^^ gt (aN b t) (t - 2) >>>10))::List.replicate (64 - 1 - t) 0))] = [some (cl wC (List.replicate 64 0)),some (cl wC (aN b (t+1)++List.replicate (64 - (t+1)) 0))]:=by
 have e:64 - (t+1) =64 - 1 - t:=by omega
 rw[e]
 simp only[aN,h,if_false,List.append_assoc,List.cons_append,List.nil_append]
theorem g9:kc.length=64:=id rfl
structure S8 where
 (a b c d e f g h:BitVec 32)
def V5 (k w:BitVec 32)(s:S8):S8:=
 ⟨(s.h+(rr s.e 6 ^^^ rr s.e 11 ^^^ rr s.e 25)+(s.e &&& s.f ^^^ ~~~s.e &&& s.g)+k+w)+((rr s.a 2 ^^^ rr s.a 13 ^^^ rr s.a 22)+(s.a &&& s.b ^^^ s.a &&& s.c ^^^ s.b &&& s.c)),s.a,s.b,s.c,
   s.d+(s.h+(rr s.e 6 ^^^ rr s.e 11 ^^^ rr s.e 25)+(s.e &&& s.f ^^^ ~~~s.e &&& s.g)+k+w),s.e,s.f,s.g⟩
def c8 (w:List (BitVec 32))(s:S8):Nat→S8
 |0=>s
 |t+1=>V5 (gt kc t) (gt w t) (c8 w s t)
def S8.l (s:S8):List (BitVec 32):=[s.a,s.b,s.c,s.d,s.e,s.f,s.g,s.h]
def S8.add (s r:S8):S8:=⟨s.a+r.a,s.b+r.b,s.c+r.c,s.d+r.d,s.e+r.e,s.f+r.f,s.g+r.g,s.h+r.h⟩
def comp (s:S8)(b:List UInt8):S8:=s.add (c8 (aN b 64) s 64)
def Nz (s r:S8)(i:Nat):List (BitVec 32):=[if 0< i then s.a+r.a else s.a,if 1< i then s.b+r.b else s.b,if 2< i then s.c+r.c else s.c,if 3< i then s.d+r.d else s.d,
 if 0< i then s.e+r.e else s.e,if 1< i then s.f+r.f else s.f,if 2< i then s.g+r.g else s.g,if 3< i then s.h+r.h else s.h]
theorem i3 (s r:S8)(i:Nat): (Nz s r i).length=8:=id rfl
theorem Hq (b o:Nat):aI Tryd.prog 155 (.bp b o) 0=some (vp (.bp b (o+0))):=by
 rw[yK,tz,yL (h:=rfl)]
 show Bl (td Tryd.prog 152) b (o+0) =_
 rw[Gq];rfl
theorem Hr (b o:Nat):aI Tryd.prog 155 (.bp b o) 1=some (vp (.bp b (o+8))):=by
 rw[yK,tz,yL (h:=rfl)]
 show Bl (td Tryd.prog 153) b (o+8) =_
 rw[Gr];rfl
theorem Hs (b o:Nat):aI Tryd.prog 155 (.bp b o) 2=some (vp (.bp b (o+72))):=by
 rw[yK,tz,yL (h:=rfl)]
 show Bl (td Tryd.prog 116) b (o+72) =_
 rw[Gp];rfl
theorem cL (s:S8):s.l.length=8:=id rfl
def Z8:List (BitVec 32):=[0,0,0,0,0,0,0,0]
theorem uu:Z8.length=8:=id rfl
structure Str where
 (s:S8) (blk:List UInt8) (n:Nat)
def Str.cells (F:Str):List C:=cl wC F.s.l++(cl bC F.blk++[.val (nU F.n)])
def IV:S8:=⟨0x6a09e667,0xbb67ae85,0x3c6ef372,0xa54ff53a,0x510e527f,0x9b05688c,0x1f83d9ab,0x5be0cd19⟩
def F0:Str:=⟨IV,List.replicate 64 0,0⟩
def push (F:Str)(x:UInt8):Str:=⟨if F.n % 64=63 then comp F.s (F.blk.set (F.n % 64) x) else F.s,F.blk.set (F.n % 64) x,F.n+1⟩
def b9 (F:Str)(m:List UInt8):Str:=m.foldl push F
theorem kT (F:Str)(m t:List UInt8):b9 F (m++t) =b9 (b9 F m) t:=by simp[b9]
theorem kn (m:List UInt8):∀F:Str,(b9 F m).n=F.n+m.length:=by
 induction m with
 |nil=>intro F;rfl
 |cons x m ih=>intro F;show (b9 (push F x) m).n=_;rw[ih];simp[push];omega
theorem fX (m:List UInt8):∀F:Str,(b9 F m).blk.length=F.blk.length:=by
 induction m with
 |nil=>intro F;rfl
 |cons x m ih=>intro F;show (b9 (push F x) m).blk.length=_;rw[ih];simp[push]
theorem kU:∀ (l:List UInt8)(G:Str),G.blk.length=64→G.n % 64+l.length≤64→l≠[]→
 b9 G l= ⟨if G.n % 64+l.length=64 then comp G.s (G.blk.take (G.n % 64)++l++G.blk.drop (G.n % 64+l.length)) else G.s,G.blk.take (G.n % 64)++l++G.blk.drop (G.n % 64+l.length),G.n+l.length⟩
 | [],G,_,_,h=>absurd rfl h
 | [x],G,hb,hl,_=>by
   have e:G.blk.set (G.n % 64) x=G.blk.take (G.n % 64)++[x]++G.blk.drop (G.n % 64+1):=by
    rw[List.set_eq_take_append_cons_drop,if_pos (by omega)];simp
   show push G x=_
   unfold push
   rw[e]
   simp only[List.length_singleton]
   have: (G.n % 64=63) = (G.n % 64+1=64):=by simp
   simp only[this]
 |x::y::l,G,hb,hl,_=>by
  simp only[List.length_cons] at hl
  have hne:G.n % 64≠63:=by omega
  show b9 (push G x) (y::l) =_
  have hp:push G x= ⟨G.s,G.blk.set (G.n % 64) x,G.n+1⟩:=by unfold push;rw[if_neg hne]
  have hm: (G.n+1) % 64=G.n % 64+1:=by omega
  rw[hp,kU (y::l) _ (by simpa using hb) (by simp only[hm,List.length_cons];omega) (by simp)]
  simp only[hm,List.length_cons]
  have e1: (G.blk.set (G.n % 64) x).take (G.n % 64+1) =G.blk.take (G.n % 64)++[x]:=by
   rw[List.set_eq_take_append_cons_drop,if_pos (by omega)]
   rw[List.take_append,List.length_take,Nat.min_eq_left (by omega),List.take_of_length_le (by simp;omega)]
   simp
  have e2: (G.blk.set (G.n % 64) x).drop (G.n % 64+1+(l.length+1)) =G.blk.drop (G.n % 64+(l.length+1+1)):=by
   rw[List.drop_set_of_lt (by omega)];congr 1;omega
  rw[e1,e2]
  have e3: (G.n % 64+1+(l.length+1) =64) = (G.n % 64+(l.length+1+1) =64):=by rw[show G.n % 64+1+(l.length+1) =G.n % 64+(l.length+1+1) by omega]
  simp only[e3,List.append_assoc,List.cons_append,List.nil_append]
  have e4:G.n+1+(l.length+1) =G.n+(l.length+1+1):=by omega
  rw[e4]
def eu (n:Nat):Nat:=(119 - n % 64) % 64
def jT (n:Nat)(k:Nat):List UInt8:=(List.range k).map fun i=>UInt8.ofNat (n>>> (56 - 8*i))
def i6 (n:Nat):List UInt8:=128::List.replicate (eu n) 0++jT (8*n) 8
def NA (s:S8)(i:Nat):UInt8:=⟨(gt s.l (i / 4) >>> (24 - 8*(i % 4))).setWidth 8⟩
def l3 (s:S8)(n:Nat):List UInt8:=(List.range n).map (NA s)
theorem eX (s:S8)(n:Nat): (l3 s n).length=n:=by simp[l3]
def jU (F:Str):List UInt8:=l3 (b9 F (i6 F.n)).s 32
def eA (m:List UInt8):List UInt8:=jU (b9 F0 m)
theorem wh (m:List UInt8): (eA m).length=32:=eX _ _
theorem rL (n k:Nat):jT n (k+1) =jT n k++[UInt8.ofNat (n>>> (56 - 8*k))]:=by simp[jT,List.range_succ]
theorem gM (n k:Nat): (jT n k).length=k:=by simp[jT]
theorem Cv (s:S8)(k:Nat):l3 s (k+1) =l3 s k++[NA s k]:=by simp[l3,List.range_succ]
theorem qU (F:Str): (⟨F.s,F.blk,F.n⟩:Str) =F:=rfl
theorem pr:F0.blk.length=64:=id rfl
theorem uv:F0.n=0:=id rfl
theorem uw (F G:Str)(t L:List UInt8)(c:Nat)(hG:b9 F (t.take c) =G)(hL:t.drop c=L)(hb:G.blk.length=64)(hne:L≠[]):
 b9 F (t.take (c+min L.length (64 - G.n % 64))) = ⟨if G.n % 64+min L.length (64 - G.n % 64) =64 then comp G.s (G.blk.take (G.n % 64)++L.take (64 - G.n % 64)++G.blk.drop (G.n % 64+(L.take (64 - G.n % 64)).length)) else G.s,
  G.blk.take (G.n % 64)++L.take (64 - G.n % 64)++G.blk.drop (G.n % 64+(L.take (64 - G.n % 64)).length),G.n+min L.length (64 - G.n % 64)⟩:=by
 have hlen: (L.take (64 - G.n % 64)).length=min L.length (64 - G.n % 64):=by rw[List.length_take,Nat.min_comm]
 have e:b9 F (t.take (c+min L.length (64 - G.n % 64))) =b9 G (L.take (64 - G.n % 64)):=by
  rw[List.take_add,kT,hG,hL]
  congr 1
  rw[List.take_eq_take_iff];omega
 rw[e,kU _ G hb (by rw[hlen];omega) (fun h=>by
  have h2:=congrArg List.length h
  have h3:0< L.length:=List.length_pos_iff.2 hne
  rw[hlen] at h2;simp only[List.length_nil] at h2;omega)]
 simp only[hlen]
theorem ux (S:S8)(i:Nat)(h:i< 32):l3 S i++NA S i::List.replicate (32 - 1 - i) 0=l3 S (i+1)++List.replicate (32 - (i+1)) 0:=by
 rw[Cv,show 32 - (i+1) =32 - 1 - i by omega];simp
theorem lI {α:Type}(l:List α)(k:Nat): (l.drop k).take (l.length - k) =l.drop k:=List.take_of_length_le (by simp)
theorem qV (op:BinOp)(a b:List UInt8)(ha:a.length=16)(hb:b.length=16):aq Tryd.prog op 29 (.agg (cl bC a)) (.agg (cl bC b)) =lN op (decide (a=b)):=JA Tryd.prog Nr No (by kernel_rfl) op a b ha hb
theorem Al (a:List (BitVec 32))(l:List UInt8)(v:Value):bE (some (cl wC a++(cl bC l++[C.val v]))) =some (cl wC a++(cl bC l++[C.val v])):=oB wC a _ (oB bC l _ rfl)
attribute [go_sem] Al
attribute [go_sem] Gs RF Nw Nx Ny Nv Nu Hq Hr Hs
end Go.Sx
namespace Go.Sx
open Go.RowKit Go.Proofs
def keyOf (key:List UInt8):List UInt8:=if key.length>64 then eA key else key
def bU (tag:Int)(parts:List (List UInt8)):List UInt8:=UInt8.ofNat (tag % 256).toNat::parts.flatMap wb
theorem ot (tag:Int)(parts:List (List UInt8))(i:Nat)(h:i< parts.length):bU tag (parts.take (i+1)) =bU tag (parts.take i)++wb (gt parts i):=by
 rw[dG _ _ h];simp[bU]
theorem NB (tag:Int)(parts:List (List UInt8))(i:Nat): (bU tag (parts.take i)).length≤(bU tag parts).length:=by
 have h:=List.take_append_drop i parts
 have e:bU tag parts=bU tag (parts.take i)++(parts.drop i).flatMap wb:=by
  have e2:parts.flatMap wb= (parts.take i++parts.drop i).flatMap wb:=by rw[h]
  unfold bU
  rw[e2,List.flatMap_append];rfl
 rw[e];simp
theorem Cw (M:List UInt8)(a:Nat)(h:64*a+64≤M.length): (b9 F0 (M.take (64*(a+1)))).s=comp (b9 F0 (M.take (64*a))).s ((M.drop (64*a)).take 64):=by
 have hl: ((M.drop (64*a)).take 64).length=64:=by simp;omega
 have hn:=kn (M.take (64*a)) F0
 rw[uv,List.length_take,Nat.min_eq_left (by omega)] at hn
 have hb:=fX (M.take (64*a)) F0
 rw[pr] at hb
 rw[show 64*(a+1) =64*a+64 by omega,List.take_add,kT,kU _ _ hb (by rw[hl,hn];omega) (fun e=>by rw[e] at hl;cases hl)]
 have hm: (b9 F0 (M.take (64*a))).n % 64=0:=by rw[hn];omega
 simp only[hl,hm,Nat.zero_add,if_true,List.take_zero,List.nil_append]
 have hd:List.drop 64 (b9 F0 (M.take (64*a))).blk= []:=List.drop_of_length_le (by rw[hb];exact Nat.le_refl _)
 rw[hd,List.append_nil]
theorem NC (b:List UInt8):eA b=l3 (b9 F0 (b++i6 b.length)).s 32:=by
 unfold eA jU
 rw[kn,uv,Nat.zero_add,kT]
theorem wj (n:Nat): (i6 n).length=9+eu n:=by simp[i6,gM];omega
theorem Cy (b:List UInt8):∃Q,(b++i6 b.length).length=64*Q:=by
 refine ⟨(b++i6 b.length).length / 64,?_⟩
 have: (b++i6 b.length).length % 64=0:=by
  rw[List.length_append,wj];unfold eu;omega
 omega
theorem Am (x:BitVec 32):x ^^^ BitVec.ofNat 32 4294967295= ~~~x:=by
 have:BitVec.ofNat 32 4294967295=BitVec.allOnes 32:=by decide
 rw[this,BitVec.xor_allOnes]
def V9 (l:List (List UInt8)):Bool:=decide (l.length≤12) && l.all fun s=>decide (s.length≤400)
theorem i7 (F:Str): (jU F).length=32:=eX _ _
theorem nV (tag:Int)(parts:List (List UInt8))(h: (bU tag parts).length< 1099511627776)(i:Nat)(hi:i< parts.length):
 (bU tag (parts.take i)).length+(wb (gt parts i)).length< 1099511627776∧(gt parts i).length< 1099511627776:=by
 have h1:=NB tag parts (i+1)
 rw[ot tag parts i hi,List.length_append] at h1
 have h2: (gt parts i).length≤(wb (gt parts i)).length:=by simp[wb]
 omega
theorem rM (tag:Int)(parts:List (List UInt8))(h: (bU tag parts).length< 1099511627776):parts.length< 1099511627776:=by
 have:∀l:List (List UInt8),l.length≤(l.flatMap wb).length:=by
  intro l
  induction l with
  |nil=>simp
  |cons a l ih=>have:=Ni a;simp at ih ⊢;omega
 have:=this parts
 unfold bU at h
 simp only[List.length_cons] at h
 omega
end Go.Sx
namespace Go.Sx
open Go.RowKit Go.Proofs
set_option maxRecDepth 100000
set_option maxHeartbeats 8000000
theorem qW {p:Prop}(e:p:=by intro KZ hZ;simp -implicitDefEqProofs (disch:=first|omega| (simp only[go_sem,lA,lD,lT] <;>omega) |decide) only[go_sem,↓reduceIte,Nat.reduceEqDiff,reduceCtorEq,Nat.reduceLT,Nat.reduceBEq,Nat.reduceAdd,hy];exact hZ):p:=e
theorem Hu {p:Prop}(e:p:=by simp -implicitDefEqProofs (disch:=first|omega| (simp only[go_sem,lA,lD,lT] <;>omega) |decide) only[go_sem,↓reduceIte,Nat.reduceEqDiff,reduceCtorEq];all_goals (rfl)):p:=e
theorem RI {gl:Nat→C}{M:Nat}{pu:Nat→List C→Option C}(hcx:CxOK (ao gl M pu))(x:BitVec 32)(k:Int):FC Tryd.prog gl 117 [.val (bf x),.val (.int .i64 k)] [] (.val (bf (i2 x ((k % 18446744073709551616).toNat % 32)))) []:=by
 replace hcx:=hcx.reN (M:=17)
 refine aP (cx:=ao gl 17 pu) (rs:=[.tmp 4]) rfl Tryd.func117 rfl rfl rfl (by simp only[List.length_cons,List.length_nil];decide) (by simp only[go_sem]) ?_
 simp only[bQ,go_sem]
 have hy:=True.intro
 refine aa hcx [] _ [] rfl rfl rfl ?_ qW
 refine aa hcx [1000008] _ [] rfl rfl rfl ?_ qW
 refine aa hcx [1000016] _ [] rfl rfl rfl ?_ qW
 exact Tr.ret Hu
theorem wl {p:Prop}(e:p:=by intro KZ hZ;simp -implicitDefEqProofs (disch:=first|omega| (simp only[go_sem,lA,lD,lT] <;>omega) |decide) only[go_sem,↓reduceIte,Nat.reduceEqDiff,reduceCtorEq,Nat.reduceLT,Nat.reduceBEq,Nat.reduceAdd,h117,hy];exact hZ):p:=e
theorem Hv {p:Prop}(e:p:=by simp -implicitDefEqProofs (disch:=first|omega| (simp only[go_sem,lA,lD,lT] <;>omega) |decide) only[go_sem,↓reduceIte,Nat.reduceEqDiff,reduceCtorEq];all_goals (rw[gL x _ i (by omega),gL x _ j (by omega),gL x _ k (by omega)])):p:=e
theorem RJ {gl:Nat→C}{M:Nat}{pu:Nat→List C→Option C}(hcx:CxOK (ao gl M pu))(h117:∀x k,pu 117 [.val (bf x),.val (.int .i64 k)] =some (.val (bf (i2 x ((k % 18446744073709551616).toNat % 32)))))(x:BitVec 32)(i j k:Nat)(hi:0< i∧i< 32)(hj:0< j∧j< 32)(hk:0< k∧k< 32):FC Tryd.prog gl 116 [.val (bf x),.val (nI i),.val (nI j),.val (nI k)] [] (.val (bf (rr x i ^^^ rr x j ^^^ rr x k))) []:=by
 replace hcx:=hcx.reN (M:=23)
 refine aP (cx:=ao gl 23 pu) (rs:=[.tmp 8]) rfl Tryd.func116 rfl rfl rfl (by simp only[List.length_cons,List.length_nil];decide) (by simp only[go_sem]) ?_
 simp only[bQ,go_sem]
 have hy:=True.intro
 refine aa hcx [] _ [] rfl rfl rfl ?_ wl
 refine aa hcx [1000022] _ [] rfl rfl rfl ?_ wl
 exact Tr.ret Hv
theorem Hw {p:Prop}(e:p:=by intro KZ hZ;simp -implicitDefEqProofs (disch:=first|omega| (simp only[go_sem,lA,lD,lT] <;>omega) |decide) only[go_sem,↓reduceIte,Nat.reduceEqDiff,reduceCtorEq,Nat.reduceLT,Nat.reduceBEq,Nat.reduceAdd,hy];exact hZ):p:=e
theorem Hx {p:Prop}(e:p:=by intro KZ hZ;simp -implicitDefEqProofs (disch:=first|omega| (simp only[go_sem,lA,lD,lT] <;>omega) |decide) only[go_sem,↓reduceIte,Nat.reduceEqDiff,reduceCtorEq,Nat.reduceLT,Nat.reduceBEq,Nat.reduceAdd,hy];refine And.intro ?_ hZ;exact rfl):p:=e
theorem Hy {p:Prop}(e:p:=by simp -implicitDefEqProofs (disch:=first|omega| (simp only[go_sem,lA,lD,lT] <;>omega) |decide) only[go_sem,↓reduceIte,Nat.reduceEqDiff,reduceCtorEq];all_goals (rfl)):p:=e
theorem RK {gl:Nat→C}{M:Nat}{pu:Nat→List C→Option C}(hcx:CxOK (ao gl M pu))(x:BitVec 32)(n:Nat)(hn:n< 32):FC Tryd.prog gl 110 [.val (bf x),.val (nI n)] [] (.val (bf (rr x n))) []:=by
 replace hcx:=hcx.reN (M:=13)
 refine aP (cx:=ao gl 13 pu) (rs:=[.tmp 4]) rfl Tryd.func110 rfl rfl rfl (by simp only[List.length_cons,List.length_nil];decide) (by simp only[go_sem]) ?_
 simp only[bQ,go_sem]
 have hy:=True.intro
 refine aa hcx [] _ [] rfl rfl rfl ?_ Hw
 refine ce hcx dR [1000012] _ [] rfl rfl rfl rfl ?_ Hx
 exact Tr.ret Hy
theorem dj {p:Prop}(e:p:=by intro KZ hZ;simp -implicitDefEqProofs (disch:=first|omega| (simp only[go_sem,lA,lD,lT,b7,hb] <;>omega) |decide) only[go_sem,↓reduceIte,Nat.reduceEqDiff,reduceCtorEq,Nat.reduceLT,Nat.reduceBEq,Nat.reduceAdd,Nat.reduceSub,Nat.reduceMul,Nat.reduceMod,Int.reduceMod,Int.reduceToNat,Int.reduceNeg,h117,kj,lX,qR,gJ,b7,Ae,Af,Ag,Ah,hy];exact hZ):p:=e
theorem wm {p:Prop}(e:p:=by intro KZ hZ;simp -implicitDefEqProofs (disch:=first|omega| (simp only[go_sem,lA,lD,lT,b7,hb] <;>omega) |decide) only[go_sem,↓reduceIte,Nat.reduceEqDiff,reduceCtorEq,Nat.reduceLT,Nat.reduceBEq,Nat.reduceAdd,Nat.reduceSub,Nat.reduceMul,Nat.reduceMod,Int.reduceMod,Int.reduceToNat,Int.reduceNeg,h117,kj,lX,qR,gJ,b7,Ae,Af,Ag,Ah,hy];refine And.intro ?_ hZ;exact rfl):p:=e
theorem Hz {p:Prop}(e:p:=by simp -implicitDefEqProofs (disch:=first|omega| (simp only[go_sem,lA,lD,lT,b7,hb] <;>omega) |decide) only[go_sem,↓reduceIte,Nat.reduceEqDiff,reduceCtorEq];all_goals (simp[List.take_of_length_le,b7])):p:=e
theorem RL {gl:Nat→C}{M:Nat}{pu:Nat→List C→Option C}(hcx:CxOK (ao gl M pu))(h117:∀x k,pu 117 [.val (bf x),.val (.int .i64 k)] =some (.val (bf (i2 x ((k % 18446744073709551616).toNat % 32)))))(b:List UInt8)(hb:b.length=64):FC Tryd.prog gl 115 [sl bC .no b] [] (.agg (cl wC (aN b 64))) []:=by
 replace hcx:=hcx.reN (M:=79)
 refine aP (cx:=ao gl 79 pu) (rs:=[.cell 2 162]) rfl Tryd.func115 rfl rfl rfl (by simp only[List.length_cons,List.length_nil];decide) (by simp only[go_sem]) ?_
 simp only[bQ,go_sem]
 have hy:=True.intro
 refine aa hcx [] _ [none] rfl rfl rfl ?_ dj
 refine aa hcx [] _ [none] rfl rfl rfl ?_ dj
 refine ae fun K1 hK1=>?_
 refine aa hcx [] _ [] rfl rfl rfl ?_ dj
 refine Tr.k [0,2,3,11] ?_
 refine Tr.blk ?_
 refine aX (α:=Nat) (fun a=>[(0,?v0_1),(2,?v2_1),(3,?v3_1),(11,.val (nI a))]) (fun a=>[some (cl wC (List.replicate 64 0)),some (cl wC (aN b a++List.replicate (64 - a) 0))]) (fun a=>a≤64) (fun a=>64 - a) (0) ?_ ?le_1 ?hh_1 ?bd_1
 case hh_1=>exact rfl
 case le_1=>exact LT
 . omega
 rintro t ht
 refine aa hcx [] _ [] rfl rfl rfl ?_ dj
 refine ae fun K2 hK2=>?_
 refine bq rfl (fun hc12=>?_) (fun hc12=>?_)
 ·
  refine Tr.skip ?_
  refine hK2 _ ?_
  refine ae fun K3 hK3=>?_
  refine Tr.blk ?_
  refine aa hcx [1000013] _ [] rfl rfl rfl ?_ dj
  refine ae fun K4 hK4=>?_
  refine aa hcx [] _ [] rfl rfl rfl ?_ dj
  refine bq rfl (fun hc15=>?_) (fun hc15=>?_)
  ·
   refine ae fun K5 hK5=>?_
   refine aa hcx [] _ [] rfl rfl rfl ?_ dj
   refine Tr.k [0,2,3,4,11,22,23,24] ?_
   refine Tr.blk ?_
   refine aX (α:=Nat) (fun a=>[(0,?v0_2),(2,?v2_2),(3,?v3_2),(4,?v4_2),(11,?v11_2),(22,?v22_2),(23,?v23_2),(24,.val (nI a))]) (fun a=>[some (cl wC (List.replicate 64 0)),some (cl wC (aN b t++jS (((b.drop (4*t)).take 4).take a)::List.replicate (63 - t) 0))]) (fun a=>a≤4) (fun a=>4 - a) (0) ?_ ?le_2 ?hh_2 ?bd_2
   case hh_2=>exact Cu b t (by omega)
   case le_2=>exact LT
   . omega
   rintro j hj
   have hl4: (List.take 4 (List.drop (4*t) b)).length=4:=by simp;omega
   refine aa hcx [] _ [] rfl rfl rfl ?_ dj
   refine ae fun K6 hK6=>?_
   refine bq rfl (fun hc25=>?_) (fun hc25=>?_)
   ·
    refine Tr.skip ?_
    refine hK6 _ ?_
    refine ae fun K7 hK7=>?_
    refine Tr.blk ?_
    refine aa hcx [1000027] _ [] rfl rfl rfl ?_ dj
    refine br hcx [] _ [] rfl rfl rfl ?_ dj
    refine hK7 _ ?_
    refine br hcx [] _ [] rfl rfl rfl ?_ dj
    exact ⟨j+1,⟨by omega,O1⟩,LT,Ak b t j (by omega) (by omega)⟩
   obtain rfl:j=4:=by omega
   refine Tr.exit ?_
   refine hK5 _ ?_
   refine Tr.exit ?_
   refine hK3 _ ?_
   refine br hcx [] _ [] rfl rfl rfl ?_ dj
   exact ⟨t+1,⟨by omega,O1⟩,LT,by first|exact nS b t hb (by omega) |exact nT b t (by omega)⟩
  refine Tr.skip ?_
  refine hK4 _ ?_
  refine ce hcx dR [1000041,1000045] _ [] rfl rfl rfl rfl ?_ wm
  refine Tr.k [0,2,3,4,7,8,11] ?_
  refine aa hcx [1000053] _ [] rfl rfl rfl ?_ dj
  refine aa hcx [1000061] _ [] rfl rfl rfl ?_ dj
  refine Tr.k [0,2,3,4,9,10,11] ?_
  refine gA hcx dR [] _ [] rfl rfl rfl rfl ?_ wm
  refine hK3 _ ?_
  refine br hcx [] _ [] rfl rfl rfl ?_ dj
  exact ⟨t+1,⟨by omega,O1⟩,LT,by first|exact nS b t hb (by omega) |exact nT b t (by omega)⟩
 obtain rfl:t=64:=by omega
 refine Tr.exit ?_
 refine hK1 _ ?_
 refine aa hcx [] _ [] rfl rfl rfl ?_ dj
 exact Tr.ret Hz
theorem dS {p:Prop}(e:p:=by intro KZ hZ;simp -implicitDefEqProofs (disch:=first|omega| (simp only[go_sem,lA,lD,lT,b7,hb,g9,i3,S8.l] <;>omega) |decide) only[go_sem,↓reduceIte,Nat.reduceEqDiff,reduceCtorEq,Nat.reduceLT,Nat.reduceBEq,Nat.reduceAdd,hg1,h116,h115,b7,S8.l,g9,i3,hy];exact hZ):p:=e
theorem ko {p:Prop}(e:p:=by intro KZ hZ;simp -implicitDefEqProofs (disch:=first|omega| (simp only[go_sem,lA,lD,lT,b7,hb,g9,i3,S8.l] <;>omega) |decide) only[go_sem,↓reduceIte,Nat.reduceEqDiff,reduceCtorEq,Nat.reduceLT,Nat.reduceBEq,Nat.reduceAdd,hg1,h116,h115,b7,S8.l,g9,i3,hy];refine And.intro ?_ hZ;exact rfl):p:=e
theorem HA {p:Prop}(e:p:=by simp -implicitDefEqProofs (disch:=first|omega| (simp only[go_sem,lA,lD,lT,b7,hb,g9,i3,S8.l] <;>omega) |decide) only[go_sem,↓reduceIte,Nat.reduceEqDiff,reduceCtorEq];all_goals (subst hr;rfl)):p:=e
theorem RM {gl:Nat→C}{M:Nat}{pu:Nat→List C→Option C}(hcx:CxOK (ao gl M pu))(hg1:gl 2= .kp (cl wC kc))(h116:∀x i j k,0< i∧i< 32→0< j∧j< 32→0< k∧k< 32→pu 116 [.val (bf x),.val (nI i),.val (nI j),.val (nI k)] =some (.val (bf (rr x i ^^^ rr x j ^^^ rr x k))))(h115:∀b:List UInt8,b.length=64→pu 115 [sl bC .no b] =some (.agg (cl wC (aN b 64))))(s:S8)(b:List UInt8)(hb:b.length=64):FC Tryd.prog gl 113 [.agg (cl wC s.l),sl bC .no b] [] (.agg (cl wC (comp s b).l)) []:=by
 replace hcx:=hcx.reN (M:=116)
 refine aP (cx:=ao gl 116 pu) (rs:=[.cell 4 152]) rfl Tryd.func113 rfl rfl rfl (by simp only[List.length_cons,List.length_nil];decide) (by simp only[go_sem]) ?_
 simp only[bQ,go_sem]
 have hy:=True.intro
 refine aa hcx [] _ [none,none] rfl rfl rfl ?_ dS
 refine aa hcx [] _ [none] rfl rfl rfl ?_ dS
 refine ce hcx dR [] _ [none,none] rfl rfl rfl rfl ?_ ko
 refine ae fun K1 hK1=>?_
 refine aa hcx [] _ [] rfl rfl rfl ?_ dS
 refine Tr.k [2,4,5,6,7,21,22] ?_
 refine Tr.blk ?_
 refine aX (α:=Nat) (fun a=>[(2,?v2_1),(4,?v4_1),(5,?v5_1),(6,?v6_1),(7,?v7_1),(21,?v21_1),(22,.val (nI a))]) (fun a=>[some (cl wC s.l),some (cl wC (List.replicate 8 0)),some (cl wC (aN b 64)),some (cl wC [(c8 (aN b 64) s a).a,(c8 (aN b 64) s a).b,(c8 (aN b 64) s a).c,(c8 (aN b 64) s a).d]),some (cl wC [(c8 (aN b 64) s a).e,(c8 (aN b 64) s a).f,(c8 (aN b 64) s a).g,(c8 (aN b 64) s a).h])]) (fun a=>a≤64) (fun a=>64 - a) (0) ?_ ?le_1 ?hh_1 ?bd_1
 case hh_1=>exact rfl
 case le_1=>exact LT
 . omega
 rintro t ht
 generalize hr:c8 (aN b 64) s t=r
 refine aa hcx [] _ [] rfl rfl rfl ?_ dS
 refine ae fun K2 hK2=>?_
 refine bq rfl (fun hc23=>?_) (fun hc23=>?_)
 ·
  refine Tr.skip ?_
  refine hK2 _ ?_
  refine ae fun K3 hK3=>?_
  refine Tr.blk ?_
  refine aa hcx [1000024,1000025] _ [] rfl rfl rfl ?_ dS
  refine Tr.k [2,4,5,6,7,8,9,21,22] ?_
  refine ce hcx dR [1000050] _ [] rfl rfl rfl rfl ?_ ko
  refine Tr.k [2,4,5,6,7,10,21,22] ?_
  refine ce hcx dR [1000071] _ [] rfl rfl rfl rfl ?_ ko
  refine Tr.k [2,4,5,6,7,10,11,21,22] ?_
  refine aa hcx [] _ [] rfl rfl rfl ?_ dS
  refine Tr.k [2,4,5,6,7,10,11,21,22] ?_
  refine br hcx [] _ [] rfl rfl rfl ?_ dS
  refine hK3 _ ?_
  refine br hcx [] _ [] rfl rfl rfl ?_ dS
  exact ⟨t+1,⟨by omega,O1⟩,LT,by simp only[c8,hr];rfl⟩
 obtain rfl:t=64:=by omega
 refine Tr.exit ?_
 refine hK1 _ ?_
 refine ae fun K4 hK4=>?_
 refine aa hcx [] _ [] rfl rfl rfl ?_ dS
 refine Tr.k [2,4,6,7,94] ?_
 refine Tr.blk ?_
 refine aX (α:=Nat) (fun a=>[(2,?v2_2),(4,?v4_2),(6,?v6_2),(7,?v7_2),(94,.val (nI a))]) (fun a=>[some (cl wC (Nz s r a)),some (cl wC (List.replicate 8 0)),some (cl wC (aN b 64)),some (cl wC [r.a,r.b,r.c,r.d]),some (cl wC [r.e,r.f,r.g,r.h])]) (fun a=>a≤4) (fun a=>4 - a) (0) ?_ ?le_2 ?hh_2 ?bd_2
 case hh_2=>exact rfl
 case le_2=>exact LT
 . omega
 rintro i hi
 refine aa hcx [] _ [] rfl rfl rfl ?_ dS
 refine ae fun K5 hK5=>?_
 refine bq rfl (fun hc95=>?_) (fun hc95=>?_)
 ·
  refine Tr.skip ?_
  refine hK5 _ ?_
  refine ae fun K6 hK6=>?_
  refine Tr.blk ?_
  refine aa hcx [1000096] _ [] rfl rfl rfl ?_ dS
  refine ce hcx dR [] _ [] rfl rfl rfl rfl ?_ ko
  refine gA hcx dR [] _ [] rfl rfl rfl rfl ?_ ko
  refine hK6 _ ?_
  refine Tr.k [2,4,6,7,94] ?_
  refine br hcx [] _ [] rfl rfl rfl ?_ dS
  exact ⟨i+1,⟨by omega,O1⟩,LT,by rcases (show i=0∨i=1∨i=2∨i=3 by omega) with rfl|rfl|rfl|rfl<;>rfl⟩
 obtain rfl:i=4:=by omega
 refine Tr.exit ?_
 refine hK4 _ ?_
 refine aa hcx [] _ [] rfl rfl rfl ?_ dS
 exact Tr.ret HA
end Go.Sx
namespace Go.Sx
open Go.RowKit Go.Proofs
set_option maxRecDepth 100000
set_option maxHeartbeats 8000000
theorem wn {p:Prop}(e:p:=by intro KZ hZ;simp -implicitDefEqProofs (disch:=first|omega| (simp only[go_sem,lA,lD,lT] <;>omega) |decide) only[go_sem,↓reduceIte,Nat.reduceEqDiff,reduceCtorEq,Nat.reduceLT,Nat.reduceBEq,Nat.reduceAdd,hy];exact hZ):p:=e
theorem HB {p:Prop}(e:p:=by simp -implicitDefEqProofs (disch:=first|omega| (simp only[go_sem,lA,lD,lT] <;>omega) |decide) only[go_sem,↓reduceIte,Nat.reduceEqDiff,reduceCtorEq];all_goals (rfl)):p:=e
theorem RN {gl:Nat→C}{M:Nat}{pu:Nat→List C→Option C}(hcx:CxOK (ao gl M pu)):FC Tryd.prog gl 103 ([]:List C) [] (.agg F0.cells) []:=by
 replace hcx:=hcx.reN (M:=3)
 refine aP (cx:=ao gl 3 pu) (rs:=[.cell 0 155]) rfl Tryd.func103 rfl rfl rfl (by simp only[List.length_cons,List.length_nil];decide) (by simp only[Str.cells,am,aw,ax,ay,ar,au,af,ag,an,Bool.and_self,Bool.and_true]) ?_
 simp only[bQ,go_sem]
 have hy:=True.intro
 refine aa hcx [] _ [none] rfl rfl rfl ?_ wn
 refine aa hcx [] _ [] rfl rfl rfl ?_ wn
 exact Tr.ret HB
theorem f8 {p:Prop}(e:p:=by intro KZ hZ;simp -implicitDefEqProofs (disch:=first|omega| (simp only[go_sem,lA,lD,lT,cL,uu] <;>omega) |decide) only[go_sem,↓reduceIte,Nat.reduceEqDiff,reduceCtorEq,Nat.reduceLT,Nat.reduceBEq,Nat.reduceAdd,Str.cells,h113,hno,cL,lI,hy];exact hZ):p:=e
theorem HC {p:Prop}(e:p:=by intro KZ hZ;simp -implicitDefEqProofs (disch:=first|omega| (simp only[go_sem,lA,lD,lT,cL,uu] <;>omega) |decide) only[go_sem,↓reduceIte,Nat.reduceEqDiff,reduceCtorEq,Nat.reduceLT,Nat.reduceBEq,Nat.reduceAdd,Str.cells,h113,hno,cL,lI,hy];refine And.intro ?_ hZ;exact rfl):p:=e
theorem HD {p:Prop}(e:p:=by simp -implicitDefEqProofs (disch:=first|omega| (simp only[go_sem,lA,lD,lT,cL,uu] <;>omega) |decide) only[go_sem,↓reduceIte,Nat.reduceEqDiff,reduceCtorEq];all_goals (rw[hGe];rfl)):p:=e
theorem RO {gl:Nat→C}{M:Nat}{pu:Nat→List C→Option C}(hcx:CxOK (ao gl M pu))(h113:∀ (s:S8) (b:List UInt8),b.length=64→pu 113 [.agg (cl wC s.l),sl bC .no b] =some (.agg (cl wC (comp s b).l)))(hno:∀ (g:Nat) (xs:List C),cM xs=true→pu g xs=none)(F:Str)(t:List UInt8)(hb:F.blk.length=64)(hn:F.n+t.length< 1152921504606846976):FC Tryd.prog gl 104 [.agg F.cells,.val (str t)] [] (.agg (b9 F t).cells) []:=by
 replace hcx:=hcx.reN (M:=38)
 refine aP (cx:=ao gl 38 pu) (rs:=[.cell 4 155]) rfl Tryd.func104 rfl rfl rfl (by simp only[List.length_cons,List.length_nil];decide) (by simp only[Str.cells,am,aw,ax,ay,ar,au,af,ag,an,Bool.and_self,Bool.and_true]) ?_
 simp only[bQ,go_sem]
 have hy:=True.intro
 refine aa hcx [] _ [none,none] rfl rfl rfl ?_ f8
 refine Tr.k [1,2,4] ?_
 refine ae fun K1 hK1=>?_
 refine Tr.blk ?_
 refine aX (α:=Nat) (fun a=>[(1,.val (str (t.drop a))),(2,?v2_1),(4,?v4_1)]) (fun a=>[some (b9 F (t.take a)).cells,some (cl wC Z8++(cl bC (List.replicate 64 0)++[.val (nU 0)]))]) (fun a=>a≤t.length) (fun a=>t.length - a) (0) ?_ ?le_1 ?hh_1 ?bd_1
 case hh_1=>exact rfl
 case le_1=>exact LT
 . omega
 rintro c hc
 have hGn:=kn (t.take c) F
 have hGb:=fX (t.take c) F
 rw[hb] at hGb
 rw[List.length_take,Nat.min_eq_left hc] at hGn
 have hdl: (t.drop c).length=t.length - c:=List.length_drop
 generalize hG:b9 F (t.take c) =G at*
 generalize hL:t.drop c=L at*
 refine ae fun K2 hK2=>?_
 refine aa hcx [] _ [] rfl rfl rfl ?_ f8
 refine bq rfl (fun hc8=>?_) (fun hc8=>?_)
 ·
  have hlp:0< L.length:=List.length_pos_iff.2 hc8
  refine Tr.skip ?_
  refine hK2 _ ?_
  refine Tr.blk ?_
  refine aa hcx [1000012] _ [] rfl rfl rfl ?_ f8
  refine aa hcx [1000017] _ [] rfl rfl rfl ?_ f8
  refine aa hcx [1000020] _ [] rfl rfl rfl ?_ f8
  refine aa hcx [] _ [] rfl rfl rfl ?_ f8
  refine Tr.k [1,2,4,5,6] ?_
  refine aa hcx [] _ [] rfl rfl rfl ?_ f8
  refine bq rfl (fun hc30=>?_) (fun hc30=>?_)
  ·
   refine gA hcx dR [] _ [] rfl rfl rfl rfl ?_ HC
   refine ⟨c+min L.length (64 - G.n % 64),⟨by omega,O1⟩,?_,by dsimp only;rw[uw F G t L c hG hL hGb hc8];first| (rw[if_pos hc30] <;>rfl) | (rw[if_neg hc30] <;>rfl)⟩
   (simp only[bJ,bc,↓bG,↓reduceIte,Nat.reduceEqDiff,aY,bu,aZ,bv,bz,and_true,true_and];all_goals (repeat' first|exact CLe.refl _|exact True.intro| (refine aW ?_;first|rfl| (simp only[List.take_zero];done)) |exact bN (by omega) |exact aO (by omega) |exact bd (by omega) |exact bA (by omega) |with_reducible apply And.intro))
   all_goals (rw[←hL,List.drop_drop];exact CLe.refl _)
  refine Tr.skip ?_
  refine ⟨c+min L.length (64 - G.n % 64),⟨by omega,O1⟩,?_,by dsimp only;rw[uw F G t L c hG hL hGb hc8];first| (rw[if_pos hc30] <;>rfl) | (rw[if_neg hc30] <;>rfl)⟩
  (simp only[bJ,bc,↓bG,↓reduceIte,Nat.reduceEqDiff,aY,bu,aZ,bv,bz,and_true,true_and];all_goals (repeat' first|exact CLe.refl _|exact True.intro| (refine aW ?_;first|rfl| (simp only[List.take_zero];done)) |exact bN (by omega) |exact aO (by omega) |exact bd (by omega) |exact bA (by omega) |with_reducible apply And.intro))
  all_goals (rw[←hL,List.drop_drop];exact CLe.refl _)
 have hL0:L= []:=Classical.not_not.1 hc8
 have hc0:c=t.length:=by rw[hL0] at hdl;simp only[List.length_nil] at hdl;omega
 have hGe:b9 F t=G:=by rw[←hG,hc0,List.take_length]
 refine Tr.exit ?_
 refine hK1 _ ?_
 refine aa hcx [] _ [] rfl rfl rfl ?_ f8
 exact Tr.ret HD
theorem cU {p:Prop}(e:p:=by intro KZ hZ;simp -implicitDefEqProofs (disch:=first|omega| (simp only[go_sem,lA,lD,lT,cL,gM,eX,fX,hb] <;>omega) |decide) only[go_sem,↓reduceIte,Nat.reduceEqDiff,reduceCtorEq,Nat.reduceLT,Nat.reduceBEq,Nat.reduceAdd,Str.cells,h104,cL,gM,eX,gJ,qU,hy];exact hZ):p:=e
theorem HE {p:Prop}(e:p:=by simp -implicitDefEqProofs (disch:=first|omega| (simp only[go_sem,lA,lD,lT,cL,gM,eX,fX,hb] <;>omega) |decide) only[go_sem,↓reduceIte,Nat.reduceEqDiff,reduceCtorEq];all_goals (simp[jU,eX])):p:=e
theorem RP {gl:Nat→C}{M:Nat}{pu:Nat→List C→Option C}(hcx:CxOK (ao gl M pu))(h104:∀ (s:S8) (blk:List UInt8) (n:Nat) (t:List UInt8),blk.length=64→n+t.length< 1152921504606846976→pu 104 [.agg (cl wC s.l++(cl bC blk++[.val (nU n)])),.val (str t)] =some (.agg (b9 ⟨s,blk,n⟩ t).cells))(F:Str)(hb:F.blk.length=64)(hn:F.n< 576460752303423488):FC Tryd.prog gl 105 [.agg F.cells] [] (.agg (cl bC (jU F))) []:=by
 replace hcx:=hcx.reN (M:=58)
 refine aP (cx:=ao gl 58 pu) (rs:=[.cell 2 141]) rfl Tryd.func105 rfl rfl rfl (by simp only[List.length_cons,List.length_nil];decide) (by simp only[go_sem]) ?_
 simp only[bQ,go_sem]
 have hy:=True.intro
 have hz:eu F.n< 64:=Nat.mod_lt _ (by decide)
 refine aa hcx [] _ [none,none] rfl rfl rfl ?_ cU
 refine aa hcx [1000010] _ [] rfl rfl rfl ?_ cU
 refine aa hcx [1000011] _ [] rfl rfl rfl ?_ cU
 refine Tr.k [1,2,3,4] ?_
 refine ae fun K1 hK1=>?_
 refine Tr.blk ?_
 refine aX (α:=Nat) (fun a=>[(1,?v1_1),(2,?v2_1),(3,?v3_1),(4,sl bC (.own 1) (128::List.replicate a 0))]) (fun a=>[some F.cells,some (cl bC (List.replicate 32 0))]) (fun a=>a≤eu F.n) (fun a=>eu F.n - a) (0) ?_ ?le_1 ?hh_1 ?bd_1
 case hh_1=>exact rfl
 case le_1=>(simp only[bJ,bc,↓bG,↓reduceIte,Nat.reduceEqDiff,aY,bu,aZ,bv,bz,and_true,true_and];all_goals (repeat' first|exact CLe.refl _|exact True.intro| (refine aW ?_;first|rfl| (simp only[List.take_zero];done)) |exact bN (by omega) |exact aO (by omega) |exact bd (by omega) |exact bA (by omega) |with_reducible apply And.intro));exact CLe.full _ _ _
 . omega
 rintro z hzz
 refine ae fun K2 hK2=>?_
 refine aa hcx [] _ [] rfl rfl rfl ?_ cU
 refine bq rfl (fun hc19=>?_) (fun hc19=>?_)
 ·
  refine Tr.skip ?_
  refine hK2 _ ?_
  refine Tr.blk ?_
  refine br hcx [20,1000022] _ [] rfl rfl rfl ?_ cU
  refine ⟨z+1,⟨by unfold eu at*;omega,by unfold eu at*;omega⟩,?_,rfl⟩
  (simp only[bJ,bc,↓bG,↓reduceIte,Nat.reduceEqDiff,aY,bu,aZ,bv,bz,and_true,true_and];all_goals (repeat' first|exact CLe.refl _|exact True.intro| (refine aW ?_;first|rfl| (simp only[List.take_zero];done)) |exact bN (by omega) |exact aO (by omega) |exact bd (by omega) |exact bA (by omega) |with_reducible apply And.intro))
  all_goals (rw[List.replicate_succ'];exact CLe.refl _)
 obtain rfl:z=eu F.n:=by unfold eu at*;omega
 refine Tr.exit ?_
 refine hK1 _ ?_
 refine ae fun K3 hK3=>?_
 refine aa hcx [] _ [] rfl rfl rfl ?_ cU
 refine Tr.k [1,2,3,4,23] ?_
 refine Tr.blk ?_
 refine aX (α:=Nat) (fun a=>[(1,?v1_2),(2,?v2_2),(3,?v3_2),(4,sl bC (.own 1) (128::List.replicate (eu F.n) 0++jT (8*F.n) a)),(23,.val (nI a))]) (fun a=>[some F.cells,some (cl bC (List.replicate 32 0))]) (fun a=>a≤8) (fun a=>8 - a) (0) ?_ ?le_2 ?hh_2 ?bd_2
 case hh_2=>exact rfl
 case le_2=>(simp only[bJ,bc,↓bG,↓reduceIte,Nat.reduceEqDiff,aY,bu,aZ,bv,bz,and_true,true_and];all_goals (repeat' first|exact CLe.refl _|exact True.intro| (refine aW ?_;first|rfl| (simp only[List.take_zero];done)) |exact bN (by omega) |exact aO (by omega) |exact bd (by omega) |exact bA (by omega) |with_reducible apply And.intro));all_goals (simp only[jT,List.range_zero,List.map_nil,List.append_nil];exact CLe.refl _)
 . omega
 rintro k hk
 refine aa hcx [] _ [] rfl rfl rfl ?_ cU
 refine ae fun K4 hK4=>?_
 refine bq rfl (fun hc24=>?_) (fun hc24=>?_)
 ·
  refine Tr.skip ?_
  refine hK4 _ ?_
  refine ae fun K5 hK5=>?_
  refine Tr.blk ?_
  refine aa hcx [1000025] _ [] rfl rfl rfl ?_ cU
  refine br hcx [26,1000034] _ [] rfl rfl rfl ?_ cU
  refine hK5 _ ?_
  refine br hcx [] _ [] rfl rfl rfl ?_ cU
  refine ⟨k+1,⟨by omega,O1⟩,?_,rfl⟩
  (simp only[bJ,bc,↓bG,↓reduceIte,Nat.reduceEqDiff,aY,bu,aZ,bv,bz,and_true,true_and];all_goals (repeat' first|exact CLe.refl _|exact True.intro| (refine aW ?_;first|rfl| (simp only[List.take_zero];done)) |exact bN (by omega) |exact aO (by omega) |exact bd (by omega) |exact bA (by omega) |with_reducible apply And.intro))
  all_goals (rw[rL,←List.append_assoc];exact CLe.refl _)
 obtain rfl:k=8:=by omega
 refine Tr.exit ?_
 refine hK3 _ ?_
 refine aa hcx [] _ [] rfl rfl rfl ?_ cU
 refine aa hcx [] _ [none] rfl rfl rfl ?_ cU
 refine ae fun K6 hK6=>?_
 refine aa hcx [] _ [] rfl rfl rfl ?_ cU
 refine Tr.k [1,2,6,40] ?_
 refine Tr.blk ?_
 refine aX (α:=Nat) (fun a=>[(1,?v1_3),(2,?v2_3),(6,?v6_3),(40,.val (nI a))]) (fun a=>[some (b9 F (i6 F.n)).cells,some (cl bC (List.replicate 32 0)),some (cl bC (l3 (b9 F (i6 F.n)).s a++List.replicate (32 - a) 0))]) (fun a=>a≤32) (fun a=>32 - a) (0) ?_ ?le_3 ?hh_3 ?bd_3
 case hh_3=>exact rfl
 case le_3=>exact LT
 . omega
 rintro i hi
 refine aa hcx [] _ [] rfl rfl rfl ?_ cU
 refine ae fun K7 hK7=>?_
 refine bq rfl (fun hc41=>?_) (fun hc41=>?_)
 ·
  refine Tr.skip ?_
  refine hK7 _ ?_
  refine ae fun K8 hK8=>?_
  refine Tr.blk ?_
  refine aa hcx [1000042] _ [] rfl rfl rfl ?_ cU
  refine br hcx [] _ [] rfl rfl rfl ?_ cU
  refine hK8 _ ?_
  refine br hcx [] _ [] rfl rfl rfl ?_ cU
  exact ⟨i+1,⟨by omega,O1⟩,LT,by dsimp only;rw[←ux _ i hc41];rfl⟩
 obtain rfl:i=32:=by omega
 refine Tr.exit ?_
 refine hK6 _ ?_
 refine aa hcx [] _ [] rfl rfl rfl ?_ cU
 exact Tr.ret HE
end Go.Sx
namespace Go.Sx
open Go.RowKit Go.Proofs
set_option maxRecDepth 100000
set_option maxHeartbeats 8000000
theorem i8 {p:Prop}(e:p:=by intro KZ hZ;simp -implicitDefEqProofs (disch:=first|omega| (simp only[go_sem,lA,lD,lT,cL,fX,pr,kn,uv,i7,hlp1,hlp2] <;>omega) |decide) only[go_sem,↓reduceIte,Nat.reduceEqDiff,reduceCtorEq,Nat.reduceLT,Nat.reduceBEq,Nat.reduceAdd,h103,h104,h105,h74,Str.cells,qU,i7,hy];exact hZ):p:=e
theorem Ao {p:Prop}(e:p:=by intro KZ hZ;simp -implicitDefEqProofs (disch:=first|omega| (simp only[go_sem,lA,lD,lT,cL,fX,pr,kn,uv,i7,hlp1,hlp2] <;>omega) |decide) only[go_sem,↓reduceIte,Nat.reduceEqDiff,reduceCtorEq,Nat.reduceLT,Nat.reduceBEq,Nat.reduceAdd,h103,h104,h105,h74,Str.cells,qU,i7,hy];refine And.intro ?_ hZ;exact rfl):p:=e
theorem ND {p:Prop}(e:p:=by simp -implicitDefEqProofs (disch:=first|omega| (simp only[go_sem,lA,lD,lT,cL,fX,pr,kn,uv,i7,hlp1,hlp2] <;>omega) |decide) only[go_sem,↓reduceIte,Nat.reduceEqDiff,reduceCtorEq];all_goals (simp only[eA,List.take_length])):p:=e
theorem Vt {gl:Nat→C}{M:Nat}{pu:Nat→List C→Option C}(hcx:CxOK (ao gl M pu))(h103:pu 103 [] =some (.agg F0.cells))(h104:∀ (s:S8) (blk:List UInt8) (n:Nat) (t:List UInt8),blk.length=64→n+t.length< 1152921504606846976→pu 104 [.agg (cl wC s.l++(cl bC blk++[.val (nU n)])),.val (str t)] =some (.agg (b9 ⟨s,blk,n⟩ t).cells))(h105:∀ (s:S8) (blk:List UInt8) (n:Nat),blk.length=64→n< 576460752303423488→pu 105 [.agg (cl wC s.l++(cl bC blk++[.val (nU n)]))] =some (.agg (cl bC (jU ⟨s,blk,n⟩))))(h74:∀s:List UInt8,s.length< 70368744177664→pu 74 [.val (str s)] =some (sl bC (.own 1) (wb s)))(tag:Int)(parts:List (List UInt8))(hl: (bU tag parts).length< 1099511627776):FC Tryd.prog gl 78 [.val (.int .i64 tag),sl sC .no parts] [] (.agg (cl bC ((eA (bU tag parts)).take 16))) []:=by
 replace hcx:=hcx.reN (M:=32)
 refine aP (cx:=ao gl 32 pu) (rs:=[.cell 4 29]) rfl Tryd.func78 rfl rfl rfl (by simp only[List.length_cons,List.length_nil];decide) (by simp only[go_sem]) ?_
 simp only[bQ,go_sem]
 have hy:=True.intro
 have hlp:=nV tag parts hl
 have hlp1:=hl
 have hpl:=rM tag parts hl
 have hlp2:=True.intro
 refine aa hcx [] _ [none] rfl rfl rfl ?_ i8
 refine ce hcx dR [] _ [none] rfl rfl rfl rfl ?_ Ao
 refine ae fun K1 hK1=>?_
 refine aa hcx [] _ [] rfl rfl rfl ?_ i8
 refine Tr.k [4,5,15,16,17] ?_
 refine Tr.blk ?_
 refine aX (α:=Nat) (fun a=>[(4,?v4_1),(5,?v5_1),(15,?v15_1),(16,?v16_1),(17,.val (nI a))]) (fun a=>[some (cl bC (List.replicate 16 0)),some (b9 F0 (bU tag (parts.take a))).cells]) (fun a=>a≤parts.length) (fun a=>parts.length - a) (0) ?_ ?le_1 ?hh_1 ?bd_1
 case hh_1=>exact rfl
 case le_1=>exact LT
 . omega
 rintro i hi
 refine aa hcx [] _ [] rfl rfl rfl ?_ i8
 refine ae fun K2 hK2=>?_
 refine bq rfl (fun hc18=>?_) (fun hc18=>?_)
 ·
  obtain ⟨hlp1,hlp2⟩:=hlp i hc18
  refine Tr.skip ?_
  refine hK2 _ ?_
  refine ae fun K3 hK3=>?_
  refine Tr.blk ?_
  refine aa hcx [1000020] _ [] rfl rfl rfl ?_ i8
  refine gA hcx dR [] _ [] rfl rfl rfl rfl ?_ Ao
  refine hK3 _ ?_
  refine br hcx [] _ [] rfl rfl rfl ?_ i8
  exact ⟨i+1,⟨by omega,O1⟩,LT,by dsimp only;rw[ot tag parts i hc18,kT] <;>rfl⟩
 obtain rfl:i=parts.length:=by omega
 have hlp1:=hl
 have hlp2:=True.intro
 simp only[List.take_length]
 refine Tr.exit ?_
 refine hK1 _ ?_
 refine aa hcx [] _ [none] rfl rfl rfl ?_ i8
 refine aa hcx [] _ [] rfl rfl rfl ?_ i8
 exact Tr.ret ND
end Go.Sx
namespace Go.Sx
open Go.RowKit Go.Proofs
end Go.Sx
