/-
   And what follows.
-/
import Derived.Test.YtmoaeemdlompaaaDoorProg
import Derived.KernelRfl
import Derived.Test.YtmoaeemdlompaaaDoorPaj
import Derived.Test.YtmoaeemdlompaaaDoorPak
set_option linter.unusedSimpArgs false
set_option linter.unusedVariables false
namespace Go.Sx
open Go.RowKit
theorem tE {α:Type} (l r:List α) (x v:α) (t:Nat) (h:l.length=t) : (l++x::r).set t v=l++v::r:=by
 subst h;simp
theorem jH {α:Type} (l:List α) (x v:α) (n t:Nat) (h:l.length=t) (h2:t< n) : (l++List.replicate (n - t) x).set t v=l++v::List.replicate (n - 1 - t) x:=by
 have e:n - t= (n - 1 - t)+1:=by omega
 rw[e,List.replicate_succ,tE _ _ _ _ _ h]
theorem lm {α:Type} [Inhabited α] (l r:List α) (x:α) (t:Nat) (h:l.length=t) :gt (l++x::r) t=x:=by
 subst h;simp[gt,List.getD]
theorem jI {α:Type} [Inhabited α] (l r:List α) (t:Nat) (h:t< l.length) :gt (l++r) t=gt l t:=by
 simp[gt,List.getD,List.getElem?_append_left h]
theorem dO {α:Type} [Inhabited α] (l:List α) (j:Nat) (h:j< l.length) :l.take (j+1) =l.take j++[gt l j] :=by
 rw[List.take_add_one,List.getElem?_eq_getElem h];simp[gt,List.getD,List.getElem?_eq_getElem h]
theorem ua {α:Type} [Inhabited α] (l:List α) (j:Nat) (h:j< l.length) :l.take j++[gt l j] =l.take (j+1) := (dO l j h).symm
def le (m:Nat) :List UInt8:=if h:m=0 then [] else UInt8.ofNat (m % 256) ::le (m / 256)
termination_by m
decreasing_by omega
theorem gY:le 0= [] :=by rw[le];simp
theorem ii (m:Nat) (h:m≠0) :le m=UInt8.ofNat (m % 256) ::le (m / 256) :=by rw[le];simp[h]
def cX (n:Int) :List UInt8:=
 if 0≤n then UInt8.ofNat (128+(le n.toNat).length) :: (le n.toNat).reverse
 else UInt8.ofNat (127 - (le (-1 - n).toNat).length) :: ((le (-1 - n).toNat).reverse.map fun c=>255 - c)
def wb (s:List UInt8) :List UInt8:=cX s.length++s
theorem fm (k:Nat) : ∀m,m< 256 ^ k→(le m).length≤k:=by
 induction k with
 |zero=>intro m h;have:m=0:=by simpa using h
        subst this;simp[gY]
 |succ k ih=>
  intro m h
  by_cases hm:m=0
  · subst hm;simp[gY]
  · rw[ii m hm]
    have:=ih (m / 256) (by rw[Nat.pow_succ] at h;exact Nat.div_lt_of_lt_mul (by omega))
    simp;omega
theorem xj (s:List UInt8) (h:s.length< 18446744073709551616) : (wb s).length≤s.length+9:=by
 have:=fm 8 s.length (by simpa using h)
 simp[wb,cX];omega
theorem xk (s:List UInt8) :1≤(wb s).length:=by
 unfold wb cX;split<;>simp<;>omega
theorem n9: ∀ (k m:Nat),m< 256 ^ k→(k=0∨256 ^ (k - 1)≤m)→(le m).length=k
 |0,m,h,_=>by
  have:m=0:=by simpa using h
  subst this;simp[gY]
 |k+1,m,h,h2=>by
  have h3:256 ^ k≤m:=by simpa using h2
  have hp:0< 256 ^ k:=Nat.pow_pos (by decide)
  have hm:m≠0:=by omega
  rw[ii m hm,List.length_cons,n9 k (m / 256) (by rw[Nat.pow_succ] at h;exact Nat.div_lt_of_lt_mul (by omega)) ?_]
  rcases Nat.eq_zero_or_pos k with rfl|hk
  · exact .inl rfl
  · right
    rw[Nat.le_div_iff_mul_le (by decide),←Nat.pow_succ]
    rw[show (k - 1).succ=k by omega];exact h3
def be (m k:Nat) :List UInt8:= (List.range k).map fun j=>UInt8.ofNat (m>>> (8*(k - 1 - j)))
theorem gi (m k:Nat) : (be m k).length=k:=by simp[be]
theorem v8 (m k j:Nat) (h:j< k) :gt (be m k) j=UInt8.ofNat (m>>> (8*(k - 1 - j))) :=by
 simp[be,gt,List.getD,h]
theorem Ki: ∀ (j m:Nat),j< (le m).length→gt (le m) j=UInt8.ofNat (m>>> (8*j))
 |0,m,h=>by
  have hm:m≠0:=by rintro rfl;simp[gY] at h
  rw[ii m hm]
  show UInt8.ofNat (m % 256) =_
  apply UInt8.toNat_inj.1;simp
 |j+1,m,h=>by
  have hm:m≠0:=by rintro rfl;simp[gY] at h
  rw[ii m hm] at h ⊢
  rw[x4,Ki j (m / 256) (by simpa using h)]
  have:8*(j+1) =8+8*j:=by omega
  rw[this,Nat.shiftRight_add,show m>>>8=m / 256 from Nat.shiftRight_eq_div_pow m 8]
theorem Dm {α:Type} [Inhabited α] (l:List α) (j:Nat) (h:j< l.length) :gt l.reverse j=gt l (l.length - 1 - j) :=by
 simp[gt,List.getD,List.getElem?_reverse h]
theorem Dn {α:Type} [Inhabited α] (l l':List α) (h:l.length=l'.length) (hg: ∀i< l.length,gt l i=gt l' i) :l=l':=by
 apply List.ext_getElem h
 intro i h1 h2
 have:=hg i h1
 simpa[gt,List.getD,List.getElem?_eq_getElem h1,List.getElem?_eq_getElem h2] using this
theorem Do (m:Nat) : (le m).reverse=be m (le m).length:=by
 refine Dn _ _ (by simp[gi]) fun i hi=> ?_
 have hi':i< (le m).length:=by simpa using hi
 rw[Dm _ _ hi',v8 _ _ _ hi',Ki _ _ (by omega)]
theorem Dp (x:UInt8) :x ^^^ 255=255 - x:=by
 apply UInt8.toNat_inj.1
 have hx:=x.toNat_lt
 rw[UInt8.toNat_xor,UInt8.toNat_sub_of_le _ _ (by rw[UInt8.le_iff_toNat_le];show _≤255;omega)]
 show x.toNat ^^^ 255=255 - x.toNat
 have h1:BitVec.ofNat 8 x.toNat ^^^ BitVec.allOnes 8= ~~~(BitVec.ofNat 8 x.toNat) :=BitVec.xor_allOnes
 have h2:=congrArg BitVec.toNat h1
 rw[BitVec.toNat_xor,BitVec.toNat_not,BitVec.toNat_ofNat,BitVec.toNat_allOnes,Nat.mod_eq_of_lt (by omega)] at h2
 simpa using h2
theorem Dq {α β:Type} [Inhabited α] [Inhabited β] (l:List α) (f:α→β) (j:Nat) (h:j< l.length) :gt (l.map f) j=f (gt l j) :=by
 simp[gt,List.getD,List.getElem?_eq_getElem h]
def wI (m:Nat) (x:UInt8) :List UInt8:= (UInt8.ofNat (128+(le m).length) ^^^ x) :: (be m (le m).length).map (· ^^^ x)
theorem ik (m:Nat) :cX m=wI m 0:=by
 unfold cX wI
 rw[if_pos (by omega),←Do]
 simp
theorem m9 (m:Nat) (h: (le m).length≤8) :cX (-1 - (m:Int)) =wI m 255:=by
 unfold cX wI
 have e: (-1 - (-1 - (m:Int))).toNat=m:=by omega
 rw[if_neg (by omega),e,←Do]
 have h2:UInt8.ofNat (127 - (le m).length) =UInt8.ofNat (128+(le m).length) ^^^ 255:=by
  generalize (le m).length=k at h
  have key: ∀k:Fin 9,UInt8.ofNat (127 - k.val) =UInt8.ofNat (128+k.val) ^^^ 255:=by decide
  exact key ⟨k,by omega⟩
 rw[h2]
 simp only[Dp]
theorem p7 (m k:Nat) :m>>> (8*k) =m / 256 ^ k:=by
 rw[Nat.shiftRight_eq_div_pow,Nat.pow_mul]
theorem p8 (m k:Nat) (h:m< 256 ^ k) (h2: ¬0< k∨0< m>>> (8*(k - 1))) :k= (le m).length:=by
 refine (n9 k m h ?_).symm
 rcases h2 with h2|h2
 · left;omega
 · right
   rw[p7] at h2
   have hp:0< 256 ^ (k - 1) :=Nat.pow_pos (by decide)
   exact (Nat.le_div_iff_mul_le hp).1 h2|> (by simpa using ·)
theorem y8 (m k:Nat) (_:0< k) (h2: ¬0< m>>> (8*(k - 1))) :m< 256 ^ (k - 1) :=by
 rw[p7] at h2
 have hp:0< 256 ^ (k - 1) :=Nat.pow_pos (by decide)
 have:m / 256 ^ (k - 1) =0:=Nat.eq_zero_of_not_pos h2
 exact (Nat.div_eq_zero_iff_lt hp).1 this
theorem p9 (m:Nat) (x:UInt8) (a:Nat) (h:a< (le m).length) : ((be m (le m).length).map (· ^^^ x)).take a++[UInt8.ofNat (m>>> (8*((le m).length - 1 - a))) ^^^ x] = ((be m (le m).length).map (· ^^^ x)).take (a+1) :=by
 have hl:a< ((be m (le m).length).map (· ^^^ x)).length:=by simpa[gi] using h
 rw[dO _ _ hl,Dq _ _ _ (by rw[gi];exact h),v8 _ _ _ h]
theorem y9 (l:List UInt8) (f:UInt8→UInt8) (a:Nat) (h:a< l.length) : (l.reverse.map f).take a++[f (gt l (l.length - 1 - a))] = (l.reverse.map f).take (a+1) :=by
 rw[dO _ _ (by simpa using h),Dq _ _ _ (by simpa using h),Dm _ _ h]
theorem FY {α:Type} (n:Nat) (x:α) :List.replicate n x++[x] =List.replicate (n+1) x:=by rw[List.replicate_succ']
theorem tF {α:Type} (l:List α) (x y:α) (n t:Nat) :l++x::List.replicate (n - 1 - t) y= (l++[x])++List.replicate (n - (t+1)) y:=by
 rw[show n - (t+1) =n - 1 - t by omega];simp
theorem FZ {α:Type} [Inhabited α] (l:List α) (n t:Nat) (y:α) (h:t< l.length) :l.take t++gt l t::List.replicate (n - 1 - t) y=l.take (t+1)++List.replicate (n - (t+1)) y:=by
 rw[tF,dO l t h]
theorem R3 (m n:Nat) (h:le m=le n) :m=n:=by
 induction m using Nat.strongRecOn generalizing n with
 |ind m ih=>
  by_cases hm:m=0
  · subst hm
    by_cases hn:n=0
    · exact hn.symm
    · rw[gY,ii n hn] at h;cases h
  · by_cases hn:n=0
    · subst hn;rw[gY,ii m hm] at h;cases h
    · rw[ii m hm,ii n hn] at h
      obtain ⟨h1,h2⟩ :=List.cons.inj h
      have h3:=congrArg UInt8.toNat h1
      simp at h3
      have:=ih (m / 256) (by omega) _ h2
      omega
theorem yG (m n:Nat) (x y:List UInt8) (hm:m< 18446744073709551616) (hn:n< 18446744073709551616) (h:cX m++x=cX n++y) :m=n∧x=y:=by
 have h1:=fm 8 m (by simpa using hm)
 have h2:=fm 8 n (by simpa using hn)
 unfold cX at h
 rw[if_pos (by omega),if_pos (by omega)] at h
 simp only[Int.toNat_natCast,List.cons_append] at h
 obtain ⟨h3,h4⟩ :=List.cons.inj h
 have h5:=congrArg UInt8.toNat h3
 simp at h5
 have h6: (le m).length= (le n).length:=by omega
 obtain ⟨h7,h8⟩ :=List.append_inj h4 (by simp[h6])
 exact ⟨R3 _ _ (by simpa using h7),h8⟩
theorem Dr (s t x y:List UInt8) (hs:s.length< 18446744073709551616) (ht:t.length< 18446744073709551616) (h:wb s++x=wb t++y) :s=t∧x=y:=by
 unfold wb at h
 rw[List.append_assoc,List.append_assoc] at h
 obtain ⟨h1,h2⟩ :=yG _ _ _ _ hs ht h
 obtain ⟨h3,h4⟩ :=List.append_inj h2 h1
 exact ⟨h3,h4⟩
end Go.Sx
namespace Go.Sx
open Go.RowKit Go.Proofs
theorem qs:td Tryd.prog 3=some ⟨.int .i64,1,8,[.int .i64 0]⟩ :=by kernel_rfl
theorem R6:td Tryd.prog 4=some ⟨.bool,1,1,[.bool false]⟩ :=by kernel_rfl
theorem Yg:td Tryd.prog 5=some ⟨.int .u8,1,1,[.int .u8 0]⟩ :=by kernel_rfl
theorem sa:td Tryd.prog 9=some ⟨.string,1,16,[.string ⟨#[]⟩]⟩ :=by kernel_rfl
theorem R7:td Tryd.prog 22=some ⟨.slice 3,1,24,[.slice none 0 0]⟩ :=by kernel_rfl
theorem R8:td Tryd.prog 24=some ⟨.slice 75,1,24,[.slice none 0 0]⟩ :=by kernel_rfl
theorem R9:td Tryd.prog 29=some ⟨.array 16 5,16,16,List.replicate 16 (.int .u8 0)⟩ :=by kernel_rfl
theorem xl:td Tryd.prog 33=some ⟨.slice 41,1,24,[.slice none 0 0]⟩ :=by kernel_rfl
theorem aaM:td Tryd.prog 39=some ⟨.slice 5,1,24,[.slice none 0 0]⟩ :=by kernel_rfl
theorem xm:td Tryd.prog 41=some ⟨.struct #[Field.mk "Key" 9 0 false "" "" 0,Field.mk "Value" 9 1 false "" "" 16],2,32,[.string ⟨#[]⟩,.string ⟨#[]⟩]⟩ :=by kernel_rfl
theorem Sa:td Tryd.prog 47=some ⟨.slice 9,1,24,[.slice none 0 0]⟩ :=by kernel_rfl
theorem Ba:td Tryd.prog 48=some ⟨.slice 29,1,24,[.slice none 0 0]⟩ :=by kernel_rfl
theorem od:td Tryd.prog 50=some ⟨.struct #[Field.mk "First" 3 0 false "" "" 0,Field.mk "Size" 3 1 false "" "" 8,Field.mk "Leaves" 33 2 false "" "" 16,Field.mk "Sides" 48 3 false "" "" 40],4,64,[.int .i64 0,.int .i64 0,.slice none 0 0,.slice none 0 0]⟩ :=by kernel_rfl
theorem xn:td Tryd.prog 54=some ⟨.struct #[Field.mk "First" 3 0 false "" "" 0,Field.mk "Size" 3 1 false "" "" 8,Field.mk "Leaves" 24 2 false "" "" 16,Field.mk "Sides" 48 3 false "" "" 40],4,64,[.int .i64 0,.int .i64 0,.slice none 0 0,.slice none 0 0]⟩ :=by kernel_rfl
theorem aaN:td Tryd.prog 63=some ⟨.slice 54,1,24,[.slice none 0 0]⟩ :=by kernel_rfl
theorem xp:td Tryd.prog 75=some ⟨.struct #[Field.mk "Key" 9 0 false "" "" 0,Field.mk "Value" 9 1 false "" "" 16],2,32,[.string ⟨#[]⟩,.string ⟨#[]⟩]⟩ :=by kernel_rfl
theorem sb:td Tryd.prog 102=some ⟨.struct #[Field.mk "Texts" 47 0 false "" "" 0,Field.mk "Sides" 48 1 false "" "" 24,Field.mk "Used" 3 2 false "" "" 48,Field.mk "Short" 4 3 false "" "" 56],4,64,[.slice none 0 0,.slice none 0 0,.int .i64 0,.bool false]⟩ :=by kernel_rfl
theorem Kj:td Tryd.prog 116=some ⟨.int .u64,1,8,[.int .u64 0]⟩ :=by kernel_rfl
theorem WL:td Tryd.prog 141=some ⟨.array 32 5,32,32,List.replicate 32 (.int .u8 0)⟩ :=by kernel_rfl
theorem Bb:td Tryd.prog 151=some ⟨.int .u32,1,4,[.int .u32 0]⟩ :=by kernel_rfl
theorem Kk:td Tryd.prog 152=some ⟨.array 8 151,8,32,List.replicate 8 (.int .u32 0)⟩ :=by kernel_rfl
theorem Kl:td Tryd.prog 153=some ⟨.array 64 5,64,64,List.replicate 64 (.int .u8 0)⟩ :=by kernel_rfl
theorem wc:td Tryd.prog 155=some ⟨.struct #[Field.mk "state" 152 0 false "" "passim/hash" 0,Field.mk "block" 153 8 false "" "passim/hash" 32,Field.mk "n" 116 72 false "" "passim/hash" 96],73,104,List.replicate 8 (.int .u32 0)++(List.replicate 64 (.int .u8 0)++[.int .u64 0])⟩ :=by kernel_rfl
theorem WM:td Tryd.prog 160=some ⟨.int .u64,1,8,[.int .u64 0]⟩ :=by kernel_rfl
theorem Bc:td Tryd.prog 162=some ⟨.array 64 151,64,256,List.replicate 64 (.int .u32 0)⟩ :=by kernel_rfl
theorem WN:td Tryd.prog 166=some ⟨.array 4 151,4,16,List.replicate 4 (.int .u32 0)⟩ :=by kernel_rfl
attribute [go_sem] qs R6 Yg sa R7 R8 R9 xl aaM xm Sa Ba od xn aaN xp sb Kj WL Bb Kk Kl wc WM Bc WN
def kc:List (BitVec 32) := [0x428a2f98,0x71374491,0xb5c0fbcf,0xe9b5dba5,0x3956c25b,0x59f111f1,0x923f82a4,0xab1c5ed5,0xd807aa98,0x12835b01,0x243185be,0x550c7dc3,0x72be5d74,0x80deb1fe,0x9bdc06a7,0xc19bf174,0xe49b69c1,0xefbe4786,0x0fc19dc6,0x240ca1cc,0x2de92c6f,0x4a7484aa,0x5cb0a9dc,0x76f988da,0x983e5152,0xa831c66d,0xb00327c8,0xbf597fc7,0xc6e00bf3,0xd5a79147,0x06ca6351,0x14292967,0x27b70a85,0x2e1b2138,0x4d2c6dfc,0x53380d13,0x650a7354,0x766a0abb,0x81c2c92e,0x92722c85,0xa2bfe8a1,0xa81a664b,0xc24b8b70,0xc76c51a3,0xd192e819,0xd6990624,0xf40e3585,0x106aa070,0x19a4c116,0x1e376c08,0x2748774c,0x34b0bcb5,0x391c0cb3,0x4ed8aa4a,0x5b9cca4f,0x682e6ff3,0x748f82ee,0x78a5636f,0x84c87814,0x8cc70208,0x90befffa,0xa4506ceb,0xbef9a3f7,0xc67178f2]
noncomputable def xq:Nat→C:=fun g=>if g=0∨g=2 then .kp (cl wC kc) else .top
noncomputable def aO (gl:Nat→C) (M:Nat) (pu:Nat→List C→Option C) :Cx:= ⟨Tryd.prog,M,gl,pu,fun _ _ _=>none,fun _=>false,fun _ _=>false⟩
theorem Sb (P:Program) (N:Nat) (gl:Nat→C) (pu:Nat→List C→Option C) (hp:Nat→List C→Hp→Option (C×Hp)) (km:TypeId→Value→Bool) (d:Option Nat) :nS ⟨P,N,gl,pu,hp,fun _=>false,km⟩ d=false:=by cases d<;>rfl
theorem Sc (gl:Nat→C) (M:Nat) (pu:Nat→List C→Option C) (d:Option Nat) :nS (aO gl M pu) d=false:=by cases d<;>rfl
theorem Km (gl:Nat→C) (M:Nat) (pu:Nat→List C→Option C) : (aO gl M pu).P=Tryd.prog:=rfl
theorem WO (gl:Nat→C) (M:Nat) (pu:Nat→List C→Option C) : (aO gl M pu).N=M:=rfl
theorem Sd (gl:Nat→C) (M:Nat) (pu:Nat→List C→Option C) : (aO gl M pu).pu=pu:=rfl
theorem Se (gl:Nat→C) (M:Nat) (pu:Nat→List C→Option C) : (aO gl M pu).hp=fun _ _ _=>none:=rfl
theorem Sf (gl:Nat→C) (M:Nat) (pu:Nat→List C→Option C) : (aO gl M pu).gl=gl:=rfl
theorem WP:xq 0= .kp (cl wC kc) :=rfl
theorem WQ:xq 2= .kp (cl wC kc) :=rfl
theorem cK {gl:Nat→C} {M:Nat} {pu:Nat→List C→Option C} : (aO gl M pu).P.follows .mixedOrders=true:=by
 rw[Km];kernel_rfl
def ln (x:BitVec 32) (k:Nat) :BitVec 32:=x<<< k|||x>>> (32 - k)
def rr (x:BitVec 32) (n:Nat) :BitVec 32:=x>>>n|||x<<< (32 - n)
theorem jJ (x:BitVec 32) (n m:Nat) (h:n=32 - m∧0< m∧m< 32) :ln x n=rr x m:=by
 unfold ln rr
 obtain ⟨h1,h2,h3⟩ :=h
 subst h1
 rw[BitVec.or_comm];congr 2;omega
theorem Ds: ∀g,aG 0 (xq g) =true:=fun g=>by
 unfold xq;split
 · exact aU wC 0 kc
 · rfl
theorem Dt (x:BitVec 32) :ln x 25=rr x 7:=jJ x 25 7 (by omega)
theorem Du (x:BitVec 32) :ln x 14=rr x 18:=jJ x 14 18 (by omega)
theorem Dv (x:BitVec 32) :ln x 15=rr x 17:=jJ x 15 17 (by omega)
theorem Dw (x:BitVec 32) :ln x 13=rr x 19:=jJ x 13 19 (by omega)
def bw (b:UInt8) :BitVec 32:=b.toBitVec.setWidth 32
def wd (b:List UInt8) (t:Nat) :BitVec 32:=bw (gt b (4*t)) <<< 24|||bw (gt b (4*t+1)) <<< 16|||bw (gt b (4*t+2)) <<< 8|||bw (gt b (4*t+3))
def cd (b:List UInt8) :Nat→List (BitVec 32)
 |0=> []
 |t+1=>cd b t++[if t< 16 then wd b t else
   gt (cd b t) (t - 16)+(rr (gt (cd b t) (t - 15)) 7 ^^^ rr (gt (cd b t) (t - 15)) 18 ^^^ gt (cd b t) (t - 15) >>>3)+gt (cd b t) (t - 7)+
    (rr (gt (cd b t) (t - 2)) 17 ^^^ rr (gt (cd b t) (t - 2)) 19 ^^^ gt (cd b t) (t - 2) >>>10)]
theorem dl (b:List UInt8) : ∀t,(cd b t).length=t
 |0=>rfl
 |t+1=>by simp[cd,dl b t]
def mb (l:List UInt8) :BitVec 32:=l.foldl (fun a x=>a<<< 8|||bw x) 0
theorem Dx (l:List UInt8) (x:UInt8) :mb (l++[x]) =mb l<<< 8|||bw x:=by simp[mb]
theorem Dy (b:List UInt8) (t:Nat) (h:4*t+4≤b.length) :mb ((b.drop (4*t)).take 4) =wd b t:=by
 have e: (b.drop (4*t)).take 4= [gt b (4*t),gt b (4*t+1),gt b (4*t+2),gt b (4*t+3)] :=by
  apply List.ext_getElem?
  intro i
  rw[List.getElem?_take,List.getElem?_drop]
  rcases i with _|_|_|_|i<;>simp[gt,List.getD] <;>first| (rw[List.getElem?_eq_getElem (by omega)];simp) |omega
 rw[e]
 simp only[mb,List.foldl_cons,List.foldl_nil,wd]
 have z: ∀x:BitVec 32,(0:BitVec 32) <<< 8|||x=x:=fun x=>by simp
 rw[z]
 simp only[BitVec.shiftLeft_or_distrib,←BitVec.shiftLeft_add]
theorem F4 (b:List UInt8) (t:Nat) (h:t< 64) : [some (cl wC (List.replicate 64 0)),some (cl wC (cd b t++List.replicate (64 - t) 0))] = [some (cl wC (List.replicate 64 0)),some (cl wC (cd b t++mb (((b.drop (4*t)).take 4).take 0) ::List.replicate (63 - t) 0))] :=by
 have e:64 - t= (63 - t)+1:=by omega
 rw[e,List.replicate_succ];rfl
theorem Dz (b:List UInt8) (t j:Nat) (h:j< ((b.drop (4*t)).take 4).length) (h2:t< 64) : [some (cl wC (List.replicate 64 0)),some (cl wC (cd b t++(mb (((b.drop (4*t)).take 4).take j) <<< 8|||bw (gt ((b.drop (4*t)).take 4) j)) ::List.replicate (63 - t) 0))] = [some (cl wC (List.replicate 64 0)),some (cl wC (cd b t++mb (((b.drop (4*t)).take 4).take (j+1)) ::List.replicate (63 - t) 0))] :=by
 rw[dO _ _ h,Dx]
theorem qt (b:List UInt8) (t:Nat) (hb:b.length=64) (h:t< 16) : [some (cl wC (List.replicate 64 0)),some (cl wC (cd b t++mb (((b.drop (4*t)).take 4).take 4) ::List.replicate (63 - t) 0))] = [some (cl wC (List.replicate 64 0)),some (cl wC (cd b (t+1)++List.replicate (64 - (t+1)) 0))] :=by
 have e:64 - (t+1) =63 - t:=by omega
 rw[e,List.take_take,Nat.min_self,Dy b t (by omega)]
 simp only[cd,h,if_true,List.append_assoc,List.cons_append,List.nil_append]
theorem qu (b:List UInt8) (t:Nat) (h: ¬t< 16) :
 [some (cl wC (List.replicate 64 0)),some (cl wC (cd b t++(gt (cd b t) (t - 16)+(rr (gt (cd b t) (t - 15)) 7 ^^^ rr (gt (cd b t) (t - 15)) 18 ^^^ gt (cd b t) (t - 15) >>>3)+gt (cd b t) (t - 7)+
   (rr (gt (cd b t) (t - 2)) 17 ^^^ rr (gt (cd b t) (t - 2)) 19 ^^^ gt (cd b t) (t - 2) >>>10)) ::List.replicate (64 - 1 - t) 0))] = [some (cl wC (List.replicate 64 0)),some (cl wC (cd b (t+1)++List.replicate (64 - (t+1)) 0))] :=by
 have e:64 - (t+1) =64 - 1 - t:=by omega
 rw[e]
 simp only[cd,h,if_false,List.append_assoc,List.cons_append,List.nil_append]
theorem j7:kc.length=64:=id rfl
structure S8 where
 (a b c d e f g h:BitVec 32)
def rnd (k w:BitVec 32) (s:S8) :S8:=
 ⟨(s.h+(rr s.e 6 ^^^ rr s.e 11 ^^^ rr s.e 25)+(s.e &&& s.f ^^^ ~~~s.e &&& s.g)+k+w)+((rr s.a 2 ^^^ rr s.a 13 ^^^ rr s.a 22)+(s.a &&& s.b ^^^ s.a &&& s.c ^^^ s.b &&& s.c)),s.a,s.b,s.c,
   s.d+(s.h+(rr s.e 6 ^^^ rr s.e 11 ^^^ rr s.e 25)+(s.e &&& s.f ^^^ ~~~s.e &&& s.g)+k+w),s.e,s.f,s.g⟩
def ez (w:List (BitVec 32)) (s:S8) :Nat→S8
 |0=>s
 |t+1=>rnd (gt kc t) (gt w t) (ez w s t)
def S8.l (s:S8) :List (BitVec 32) := [s.a,s.b,s.c,s.d,s.e,s.f,s.g,s.h]
def S8.add (s r:S8) :S8:= ⟨s.a+r.a,s.b+r.b,s.c+r.c,s.d+r.d,s.e+r.e,s.f+r.f,s.g+r.g,s.h+r.h⟩
def comp (s:S8) (b:List UInt8) :S8:=s.add (ez (cd b 64) s 64)
def Sg (s r:S8) (i:Nat) :List (BitVec 32) := [if 0< i then s.a+r.a else s.a,if 1< i then s.b+r.b else s.b,if 2< i then s.c+r.c else s.c,if 3< i then s.d+r.d else s.d,
 if 0< i then s.e+r.e else s.e,if 1< i then s.f+r.f else s.f,if 2< i then s.g+r.g else s.g,if 3< i then s.h+r.h else s.h]
theorem lp (s r:S8) (i:Nat) : (Sg s r i).length=8:=id rfl
theorem LG (b o:Nat) :bL Tryd.prog 155 (.bp b o) 0=some (vp (.bp b (o+0))) :=by
 rw[BC,wc,BD (h:=rfl)]
 show EJ (td Tryd.prog 152) b (o+0) =_
 rw[Kk];rfl
theorem LH (b o:Nat) :bL Tryd.prog 155 (.bp b o) 1=some (vp (.bp b (o+8))) :=by
 rw[BC,wc,BD (h:=rfl)]
 show EJ (td Tryd.prog 153) b (o+8) =_
 rw[Kl];rfl
theorem LJ (b o:Nat) :bL Tryd.prog 155 (.bp b o) 2=some (vp (.bp b (o+72))) :=by
 rw[BC,wc,BD (h:=rfl)]
 show EJ (td Tryd.prog 116) b (o+72) =_
 rw[Kj];rfl
theorem d7 (s:S8) :s.l.length=8:=id rfl
def Z8:List (BitVec 32) := [0,0,0,0,0,0,0,0]
theorem xu:Z8.length=8:=id rfl
structure Str where
 (s:S8) (blk:List UInt8) (n:Nat)
def Str.cells (F:Str) :List C:=cl wC F.s.l++(cl bC F.blk++[.val (nU F.n)])
def IV:S8:= ⟨0x6a09e667,0xbb67ae85,0x3c6ef372,0xa54ff53a,0x510e527f,0x9b05688c,0x1f83d9ab,0x5be0cd19⟩
def F0:Str:= ⟨IV,List.replicate 64 0,0⟩
def push (F:Str) (x:UInt8) :Str:= ⟨if F.n % 64=63 then comp F.s (F.blk.set (F.n % 64) x) else F.s,F.blk.set (F.n % 64) x,F.n+1⟩
def dn (F:Str) (m:List UInt8) :Str:=m.foldl push F
theorem na (F:Str) (m t:List UInt8) :dn F (m++t) =dn (dn F m) t:=by simp[dn]
theorem mI (m:List UInt8) : ∀F:Str,(dn F m).n=F.n+m.length:=by
 induction m with
 |nil=>intro F;rfl
 |cons x m ih=>intro F;show (dn (push F x) m).n=_;rw[ih];simp[push];omega
theorem i2 (m:List UInt8) : ∀F:Str,(dn F m).blk.length=F.blk.length:=by
 induction m with
 |nil=>intro F;rfl
 |cons x m ih=>intro F;show (dn (push F x) m).blk.length=_;rw[ih];simp[push]
theorem nb: ∀ (l:List UInt8) (G:Str),G.blk.length=64→G.n % 64+l.length≤64→l≠[]→
 dn G l= ⟨if G.n % 64+l.length=64 then comp G.s (G.blk.take (G.n % 64)++l++G.blk.drop (G.n % 64+l.length)) else G.s,G.blk.take (G.n % 64)++l++G.blk.drop (G.n % 64+l.length),G.n+l.length⟩
 | [],G,_,_,h=>absurd rfl h
 | [x],G,hb,hl,_=>by
   have e:G.blk.set (G.n % 64) x=G.blk.take (G.n % 64)++[x]++G.blk.drop (G.n % 64+1) :=by
    rw[List.set_eq_take_append_cons_drop,if_pos (by omega)];simp
   show push G x=_
   unfold push
   rw[e]
   simp only[List.length_singleton]
   have: (G.n % 64=63) = (G.n % 64+1=64) :=by simp
   simp only[this]
 |x::y::l,G,hb,hl,_=>by
  simp only[List.length_cons] at hl
  have hne:G.n % 64≠63:=by omega
  show dn (push G x) (y::l) =_
  have hp:push G x= ⟨G.s,G.blk.set (G.n % 64) x,G.n+1⟩ :=by unfold push;rw[if_neg hne]
  have hm: (G.n+1) % 64=G.n % 64+1:=by omega
  rw[hp,nb (y::l) _ (by simpa using hb) (by simp only[hm,List.length_cons];omega) (by simp)]
  simp only[hm,List.length_cons]
  have e1: (G.blk.set (G.n % 64) x).take (G.n % 64+1) =G.blk.take (G.n % 64)++[x] :=by
   rw[List.set_eq_take_append_cons_drop,if_pos (by omega)]
   rw[List.take_append,List.length_take,Nat.min_eq_left (by omega),List.take_of_length_le (by simp;omega)]
   simp
  have e2: (G.blk.set (G.n % 64) x).drop (G.n % 64+1+(l.length+1)) =G.blk.drop (G.n % 64+(l.length+1+1)) :=by
   rw[List.drop_set_of_lt (by omega)];congr 1;omega
  rw[e1,e2]
  have e3: (G.n % 64+1+(l.length+1) =64) = (G.n % 64+(l.length+1+1) =64) :=by rw[show G.n % 64+1+(l.length+1) =G.n % 64+(l.length+1+1) by omega]
  simp only[e3,List.append_assoc,List.cons_append,List.nil_append]
  have e4:G.n+1+(l.length+1) =G.n+(l.length+1+1) :=by omega
  rw[e4]
def gj (n:Nat) :Nat:= (119 - n % 64) % 64
def mc (n:Nat) (k:Nat) :List UInt8:= (List.range k).map fun i=>UInt8.ofNat (n>>> (56 - 8*i))
def lq (n:Nat) :List UInt8:=128::List.replicate (gj n) 0++mc (8*n) 8
def Sh (s:S8) (i:Nat) :UInt8:= ⟨(gt s.l (i / 4) >>> (24 - 8*(i % 4))).setWidth 8⟩
def oe (s:S8) (n:Nat) :List UInt8:= (List.range n).map (Sh s)
theorem gZ (s:S8) (n:Nat) : (oe s n).length=n:=by simp[oe]
def md (F:Str) :List UInt8:=oe (dn F (lq F.n)).s 32
def eR (m:List UInt8) :List UInt8:=md (dn F0 m)
theorem tG (m:List UInt8) : (eR m).length=32:=gZ _ _
theorem ub (n k:Nat) :mc n (k+1) =mc n k++[UInt8.ofNat (n>>> (56 - 8*k))] :=by simp[mc,List.range_succ]
theorem jK (n k:Nat) : (mc n k).length=k:=by simp[mc]
theorem F5 (s:S8) (k:Nat) :oe s (k+1) =oe s k++[Sh s k] :=by simp[oe,List.range_succ]
theorem tH (F:Str) : (⟨F.s,F.blk,F.n⟩ :Str) =F:=rfl
theorem sc:F0.blk.length=64:=id rfl
theorem xw:F0.n=0:=id rfl
theorem xx (F G:Str) (t L:List UInt8) (c:Nat) (hG:dn F (t.take c) =G) (hL:t.drop c=L) (hb:G.blk.length=64) (hne:L≠[]) :
 dn F (t.take (c+min L.length (64 - G.n % 64))) = ⟨if G.n % 64+min L.length (64 - G.n % 64) =64 then comp G.s (G.blk.take (G.n % 64)++L.take (64 - G.n % 64)++G.blk.drop (G.n % 64+(L.take (64 - G.n % 64)).length)) else G.s,
  G.blk.take (G.n % 64)++L.take (64 - G.n % 64)++G.blk.drop (G.n % 64+(L.take (64 - G.n % 64)).length),G.n+min L.length (64 - G.n % 64)⟩ :=by
 have hlen: (L.take (64 - G.n % 64)).length=min L.length (64 - G.n % 64) :=by rw[List.length_take,Nat.min_comm]
 have e:dn F (t.take (c+min L.length (64 - G.n % 64))) =dn G (L.take (64 - G.n % 64)) :=by
  rw[List.take_add,na,hG,hL]
  congr 1
  rw[List.take_eq_take_iff];omega
 rw[e,nb _ G hb (by rw[hlen];omega) (fun h=>by
  have h2:=congrArg List.length h
  have h3:0< L.length:=List.length_pos_iff.2 hne
  rw[hlen] at h2;simp only[List.length_nil] at h2;omega)]
 simp only[hlen]
theorem xy (S:S8) (i:Nat) (h:i< 32) :oe S i++Sh S i::List.replicate (32 - 1 - i) 0=oe S (i+1)++List.replicate (32 - (i+1)) 0:=by
 rw[F5,show 32 - (i+1) =32 - 1 - i by omega];simp
theorem nN {α:Type} (l:List α) (k:Nat) : (l.drop k).take (l.length - k) =l.drop k:=List.take_of_length_le (by simp)
theorem fF (op:BinOp) (a b:List UInt8) (ha:a.length=16) (hb:b.length=16) :aW Tryd.prog op 29 (.agg (cl bC a)) (.agg (cl bC b)) =oA op (decide (a=b)) :=N0 Tryd.prog R9 Yg (by kernel_rfl) op a b ha hb
theorem DA (a:List (BitVec 32)) (l:List UInt8) (v:Value) :cI (some (cl wC a++(cl bC l++[C.val v]))) =some (cl wC a++(cl bC l++[C.val v])) :=rc wC a _ (rc bC l _ rfl)
attribute [go_sem] DA
attribute [go_sem] Km WO Sd Se Sf Sc Sb LG LH LJ
end Go.Sx
namespace Go.Sx
open Go.RowKit Go.Proofs
def keyOf (key:List UInt8) :List UInt8:=if key.length>64 then eR key else key
def cL (tag:Int) (parts:List (List UInt8)) :List UInt8:=UInt8.ofNat (tag % 256).toNat::parts.flatMap wb
theorem qT (tag:Int) (parts:List (List UInt8)) (i:Nat) (h:i< parts.length) :cL tag (parts.take (i+1)) =cL tag (parts.take i)++wb (gt parts i) :=by
 rw[dO _ _ h];simp[cL]
theorem Si (tag:Int) (parts:List (List UInt8)) (i:Nat) : (cL tag (parts.take i)).length≤(cL tag parts).length:=by
 have h:=List.take_append_drop i parts
 have e:cL tag parts=cL tag (parts.take i)++(parts.drop i).flatMap wb:=by
  have e2:parts.flatMap wb= (parts.take i++parts.drop i).flatMap wb:=by rw[h]
  unfold cL
  rw[e2,List.flatMap_append];rfl
 rw[e];simp
theorem F6 (M:List UInt8) (a:Nat) (h:64*a+64≤M.length) : (dn F0 (M.take (64*(a+1)))).s=comp (dn F0 (M.take (64*a))).s ((M.drop (64*a)).take 64) :=by
 have hl: ((M.drop (64*a)).take 64).length=64:=by simp;omega
 have hn:=mI (M.take (64*a)) F0
 rw[xw,List.length_take,Nat.min_eq_left (by omega)] at hn
 have hb:=i2 (M.take (64*a)) F0
 rw[sc] at hb
 rw[show 64*(a+1) =64*a+64 by omega,List.take_add,na,nb _ _ hb (by rw[hl,hn];omega) (fun e=>by rw[e] at hl;cases hl)]
 have hm: (dn F0 (M.take (64*a))).n % 64=0:=by rw[hn];omega
 simp only[hl,hm,Nat.zero_add,if_true,List.take_zero,List.nil_append]
 have hd:List.drop 64 (dn F0 (M.take (64*a))).blk= [] :=List.drop_of_length_le (by rw[hb];exact Nat.le_refl _)
 rw[hd,List.append_nil]
theorem Sj (b:List UInt8) :eR b=oe (dn F0 (b++lq b.length)).s 32:=by
 unfold eR md
 rw[mI,xw,Nat.zero_add,na]
theorem za (n:Nat) : (lq n).length=9+gj n:=by simp[lq,jK];omega
theorem F7 (b:List UInt8) : ∃Q,(b++lq b.length).length=64*Q:=by
 refine ⟨(b++lq b.length).length / 64,?_⟩
 have: (b++lq b.length).length % 64=0:=by
  rw[List.length_append,za];unfold gj;omega
 omega
theorem DB (x:BitVec 32) :x ^^^ BitVec.ofNat 32 4294967295= ~~~x:=by
 have:BitVec.ofNat 32 4294967295=BitVec.allOnes 32:=by decide
 rw[this,BitVec.xor_allOnes]
def few (l:List (List UInt8)) :Bool:=decide (l.length≤12) && l.all fun s=>decide (s.length≤400)
theorem lr (F:Str) : (md F).length=32:=gZ _ _
theorem qv (tag:Int) (parts:List (List UInt8)) (h: (cL tag parts).length< 1099511627776) (i:Nat) (hi:i< parts.length) :
 (cL tag (parts.take i)).length+(wb (gt parts i)).length< 1099511627776∧(gt parts i).length< 1099511627776:=by
 have h1:=Si tag parts (i+1)
 rw[qT tag parts i hi,List.length_append] at h1
 have h2: (gt parts i).length≤(wb (gt parts i)).length:=by simp[wb]
 omega
theorem uc (tag:Int) (parts:List (List UInt8)) (h: (cL tag parts).length< 1099511627776) :parts.length< 1099511627776:=by
 have: ∀l:List (List UInt8),l.length≤(l.flatMap wb).length:=by
  intro l
  induction l with
  |nil=>simp
  |cons a l ih=>have:=xk a;simp at ih ⊢;omega
 have:=this parts
 unfold cL at h
 simp only[List.length_cons] at h
 omega
end Go.Sx
namespace Go.Sx
open Go.RowKit Go.Proofs
set_option maxRecDepth 100000
set_option maxHeartbeats 8000000
theorem tI {p:Prop} (e:p:=by intro KZ hZ;simp -implicitDefEqProofs (disch:=first|omega| (simp only[go_sem,lA,lD,lT] <;>omega) |decide) only[go_sem,↓reduceIte,Nat.reduceEqDiff,reduceCtorEq,Nat.reduceLT,Nat.reduceBEq,Nat.reduceAdd,hy];exact hZ) :p:=e
theorem LL {p:Prop} (e:p:=by simp -implicitDefEqProofs (disch:=first|omega| (simp only[go_sem,lA,lD,lT] <;>omega) |decide) only[go_sem,↓reduceIte,Nat.reduceEqDiff,reduceCtorEq];all_goals (rfl)) :p:=e
theorem WR {gl:Nat→C} {M:Nat} {pu:Nat→List C→Option C} (hcx:CxOK (aO gl M pu)) (x:BitVec 32) (k:Int) :FC Tryd.prog gl 117 [.val (cB x),.val (.int .i64 k)] [] (.val (cB (ln x ((k % 18446744073709551616).toNat % 32)))) [] :=by
 replace hcx:=hcx.reN (M:=17)
 refine bZ (cx:=aO gl 17 pu) (rs:= [.tmp 4]) rfl Tryd.func117 rfl rfl rfl (by simp only[List.length_cons,List.length_nil];decide) (by simp only[go_sem]) ?_
 simp only[cO,go_sem]
 have hy:=True.intro
 refine aa hcx [] _ [] rfl rfl rfl ?_ tI
 refine aa hcx [1000008] _ [] rfl rfl rfl ?_ tI
 refine aa hcx [1000016] _ [] rfl rfl rfl ?_ tI
 exact Tr.ret LL
theorem zb {p:Prop} (e:p:=by intro KZ hZ;simp -implicitDefEqProofs (disch:=first|omega| (simp only[go_sem,lA,lD,lT] <;>omega) |decide) only[go_sem,↓reduceIte,Nat.reduceEqDiff,reduceCtorEq,Nat.reduceLT,Nat.reduceBEq,Nat.reduceAdd,h117,hy];exact hZ) :p:=e
theorem LM {p:Prop} (e:p:=by simp -implicitDefEqProofs (disch:=first|omega| (simp only[go_sem,lA,lD,lT] <;>omega) |decide) only[go_sem,↓reduceIte,Nat.reduceEqDiff,reduceCtorEq];all_goals (rw[jJ x _ i (by omega),jJ x _ j (by omega),jJ x _ k (by omega)])) :p:=e
theorem WS {gl:Nat→C} {M:Nat} {pu:Nat→List C→Option C} (hcx:CxOK (aO gl M pu)) (h117: ∀x k,pu 117 [.val (cB x),.val (.int .i64 k)] =some (.val (cB (ln x ((k % 18446744073709551616).toNat % 32))))) (x:BitVec 32) (i j k:Nat) (hi:0< i∧i< 32) (hj:0< j∧j< 32) (hk:0< k∧k< 32) :FC Tryd.prog gl 116 [.val (cB x),.val (nI i),.val (nI j),.val (nI k)] [] (.val (cB (rr x i ^^^ rr x j ^^^ rr x k))) [] :=by
 replace hcx:=hcx.reN (M:=23)
 refine bZ (cx:=aO gl 23 pu) (rs:= [.tmp 8]) rfl Tryd.func116 rfl rfl rfl (by simp only[List.length_cons,List.length_nil];decide) (by simp only[go_sem]) ?_
 simp only[cO,go_sem]
 have hy:=True.intro
 refine aa hcx [] _ [] rfl rfl rfl ?_ zb
 refine aa hcx [1000022] _ [] rfl rfl rfl ?_ zb
 exact Tr.ret LM
theorem LN {p:Prop} (e:p:=by intro KZ hZ;simp -implicitDefEqProofs (disch:=first|omega| (simp only[go_sem,lA,lD,lT] <;>omega) |decide) only[go_sem,↓reduceIte,Nat.reduceEqDiff,reduceCtorEq,Nat.reduceLT,Nat.reduceBEq,Nat.reduceAdd,hy];exact hZ) :p:=e
theorem LO {p:Prop} (e:p:=by intro KZ hZ;simp -implicitDefEqProofs (disch:=first|omega| (simp only[go_sem,lA,lD,lT] <;>omega) |decide) only[go_sem,↓reduceIte,Nat.reduceEqDiff,reduceCtorEq,Nat.reduceLT,Nat.reduceBEq,Nat.reduceAdd,hy];refine And.intro ?_ hZ;exact rfl) :p:=e
theorem LS {p:Prop} (e:p:=by simp -implicitDefEqProofs (disch:=first|omega| (simp only[go_sem,lA,lD,lT] <;>omega) |decide) only[go_sem,↓reduceIte,Nat.reduceEqDiff,reduceCtorEq];all_goals (rfl)) :p:=e
theorem WT {gl:Nat→C} {M:Nat} {pu:Nat→List C→Option C} (hcx:CxOK (aO gl M pu)) (x:BitVec 32) (n:Nat) (hn:n< 32) :FC Tryd.prog gl 110 [.val (cB x),.val (nI n)] [] (.val (cB (rr x n))) [] :=by
 replace hcx:=hcx.reN (M:=13)
 refine bZ (cx:=aO gl 13 pu) (rs:= [.tmp 4]) rfl Tryd.func110 rfl rfl rfl (by simp only[List.length_cons,List.length_nil];decide) (by simp only[go_sem]) ?_
 simp only[cO,go_sem]
 have hy:=True.intro
 refine aa hcx [] _ [] rfl rfl rfl ?_ LN
 refine bH hcx cK [1000012] _ [] rfl rfl rfl rfl ?_ LO
 exact Tr.ret LS
theorem eH {p:Prop} (e:p:=by intro KZ hZ;simp -implicitDefEqProofs (disch:=first|omega| (simp only[go_sem,lA,lD,lT,dl,hb] <;>omega) |decide) only[go_sem,↓reduceIte,Nat.reduceEqDiff,reduceCtorEq,Nat.reduceLT,Nat.reduceBEq,Nat.reduceAdd,Nat.reduceSub,Nat.reduceMul,Nat.reduceMod,Int.reduceMod,Int.reduceToNat,Int.reduceNeg,h117,jI,lm,tE,jH,dl,Dt,Du,Dv,Dw,hy];exact hZ) :p:=e
theorem zd {p:Prop} (e:p:=by intro KZ hZ;simp -implicitDefEqProofs (disch:=first|omega| (simp only[go_sem,lA,lD,lT,dl,hb] <;>omega) |decide) only[go_sem,↓reduceIte,Nat.reduceEqDiff,reduceCtorEq,Nat.reduceLT,Nat.reduceBEq,Nat.reduceAdd,Nat.reduceSub,Nat.reduceMul,Nat.reduceMod,Int.reduceMod,Int.reduceToNat,Int.reduceNeg,h117,jI,lm,tE,jH,dl,Dt,Du,Dv,Dw,hy];refine And.intro ?_ hZ;exact rfl) :p:=e
theorem LU {p:Prop} (e:p:=by simp -implicitDefEqProofs (disch:=first|omega| (simp only[go_sem,lA,lD,lT,dl,hb] <;>omega) |decide) only[go_sem,↓reduceIte,Nat.reduceEqDiff,reduceCtorEq];all_goals (simp[List.take_of_length_le,dl])) :p:=e
theorem WU {gl:Nat→C} {M:Nat} {pu:Nat→List C→Option C} (hcx:CxOK (aO gl M pu)) (h117: ∀x k,pu 117 [.val (cB x),.val (.int .i64 k)] =some (.val (cB (ln x ((k % 18446744073709551616).toNat % 32))))) (b:List UInt8) (hb:b.length=64) :FC Tryd.prog gl 115 [sl bC .no b] [] (.agg (cl wC (cd b 64))) [] :=by
 replace hcx:=hcx.reN (M:=79)
 refine bZ (cx:=aO gl 79 pu) (rs:= [.cell 2 162]) rfl Tryd.func115 rfl rfl rfl (by simp only[List.length_cons,List.length_nil];decide) (by simp only[go_sem]) ?_
 simp only[cO,go_sem]
 have hy:=True.intro
 refine aa hcx [] _ [none] rfl rfl rfl ?_ eH
 refine aa hcx [] _ [none] rfl rfl rfl ?_ eH
 refine ae fun K1 hK1=> ?_
 refine aa hcx [] _ [] rfl rfl rfl ?_ eH
 refine Tr.k [0,2,3,11] ?_
 refine Tr.blk ?_
 refine cm (α:=Nat) (fun a=> [(0,?v0_1),(2,?v2_1),(3,?v3_1),(11,.val (nI a))]) (fun a=> [some (cl wC (List.replicate 64 0)),some (cl wC (cd b a++List.replicate (64 - a) 0))]) (fun a=>a≤64) (fun a=>64 - a) (0) ?_ ?le_1 ?hh_1 ?bd_1
 case hh_1=>exact rfl
 case le_1=>exact LT
 · omega
 rintro t ht
 refine aa hcx [] _ [] rfl rfl rfl ?_ eH
 refine ae fun K2 hK2=> ?_
 refine bS rfl (fun hc12=> ?_) (fun hc12=> ?_)
 ·
  refine Tr.skip ?_
  refine hK2 _ ?_
  refine ae fun K3 hK3=> ?_
  refine Tr.blk ?_
  refine aa hcx [1000013] _ [] rfl rfl rfl ?_ eH
  refine ae fun K4 hK4=> ?_
  refine aa hcx [] _ [] rfl rfl rfl ?_ eH
  refine bS rfl (fun hc15=> ?_) (fun hc15=> ?_)
  ·
   refine ae fun K5 hK5=> ?_
   refine aa hcx [] _ [] rfl rfl rfl ?_ eH
   refine Tr.k [0,2,3,4,11,22,23,24] ?_
   refine Tr.blk ?_
   refine cm (α:=Nat) (fun a=> [(0,?v0_2),(2,?v2_2),(3,?v3_2),(4,?v4_2),(11,?v11_2),(22,?v22_2),(23,?v23_2),(24,.val (nI a))]) (fun a=> [some (cl wC (List.replicate 64 0)),some (cl wC (cd b t++mb (((b.drop (4*t)).take 4).take a) ::List.replicate (63 - t) 0))]) (fun a=>a≤4) (fun a=>4 - a) (0) ?_ ?le_2 ?hh_2 ?bd_2
   case hh_2=>exact F4 b t (by omega)
   case le_2=>exact LT
   · omega
   rintro j hj
   have hl4: (List.take 4 (List.drop (4*t) b)).length=4:=by simp;omega
   refine aa hcx [] _ [] rfl rfl rfl ?_ eH
   refine ae fun K6 hK6=> ?_
   refine bS rfl (fun hc25=> ?_) (fun hc25=> ?_)
   ·
    refine Tr.skip ?_
    refine hK6 _ ?_
    refine ae fun K7 hK7=> ?_
    refine Tr.blk ?_
    refine aa hcx [1000027] _ [] rfl rfl rfl ?_ eH
    refine bG hcx [] _ [] rfl rfl rfl ?_ eH
    refine hK7 _ ?_
    refine bG hcx [] _ [] rfl rfl rfl ?_ eH
    exact ⟨j+1,⟨by omega,O1⟩,LT,Dz b t j (by omega) (by omega)⟩
   obtain rfl:j=4:=by omega
   refine Tr.exit ?_
   refine hK5 _ ?_
   refine Tr.exit ?_
   refine hK3 _ ?_
   refine bG hcx [] _ [] rfl rfl rfl ?_ eH
   exact ⟨t+1,⟨by omega,O1⟩,LT,by first|exact qt b t hb (by omega) |exact qu b t (by omega)⟩
  refine Tr.skip ?_
  refine hK4 _ ?_
  refine bH hcx cK [1000041,1000045] _ [] rfl rfl rfl rfl ?_ zd
  refine Tr.k [0,2,3,4,7,8,11] ?_
  refine aa hcx [1000053] _ [] rfl rfl rfl ?_ eH
  refine aa hcx [1000061] _ [] rfl rfl rfl ?_ eH
  refine Tr.k [0,2,3,4,9,10,11] ?_
  refine gK hcx cK [] _ [] rfl rfl rfl rfl ?_ zd
  refine hK3 _ ?_
  refine bG hcx [] _ [] rfl rfl rfl ?_ eH
  exact ⟨t+1,⟨by omega,O1⟩,LT,by first|exact qt b t hb (by omega) |exact qu b t (by omega)⟩
 obtain rfl:t=64:=by omega
 refine Tr.exit ?_
 refine hK1 _ ?_
 refine aa hcx [] _ [] rfl rfl rfl ?_ eH
 exact Tr.ret LU
theorem fv {p:Prop} (e:p:=by intro KZ hZ;simp -implicitDefEqProofs (disch:=first|omega| (simp only[go_sem,lA,lD,lT,dl,hb,j7,lp,S8.l] <;>omega) |decide) only[go_sem,↓reduceIte,Nat.reduceEqDiff,reduceCtorEq,Nat.reduceLT,Nat.reduceBEq,Nat.reduceAdd,hg1,h116,h115,dl,S8.l,j7,lp,hy];exact hZ) :p:=e
theorem mJ {p:Prop} (e:p:=by intro KZ hZ;simp -implicitDefEqProofs (disch:=first|omega| (simp only[go_sem,lA,lD,lT,dl,hb,j7,lp,S8.l] <;>omega) |decide) only[go_sem,↓reduceIte,Nat.reduceEqDiff,reduceCtorEq,Nat.reduceLT,Nat.reduceBEq,Nat.reduceAdd,hg1,h116,h115,dl,S8.l,j7,lp,hy];refine And.intro ?_ hZ;exact rfl) :p:=e
theorem LV {p:Prop} (e:p:=by simp -implicitDefEqProofs (disch:=first|omega| (simp only[go_sem,lA,lD,lT,dl,hb,j7,lp,S8.l] <;>omega) |decide) only[go_sem,↓reduceIte,Nat.reduceEqDiff,reduceCtorEq];all_goals (subst hr;rfl)) :p:=e
theorem WV {gl:Nat→C} {M:Nat} {pu:Nat→List C→Option C} (hcx:CxOK (aO gl M pu)) (hg1:gl 2= .kp (cl wC kc)) (h116: ∀x i j k,0< i∧i< 32→0< j∧j< 32→0< k∧k< 32→pu 116 [.val (cB x),.val (nI i),.val (nI j),.val (nI k)] =some (.val (cB (rr x i ^^^ rr x j ^^^ rr x k)))) (h115: ∀b:List UInt8,b.length=64→pu 115 [sl bC .no b] =some (.agg (cl wC (cd b 64)))) (s:S8) (b:List UInt8) (hb:b.length=64) :FC Tryd.prog gl 113 [.agg (cl wC s.l),sl bC .no b] [] (.agg (cl wC (comp s b).l)) [] :=by
 replace hcx:=hcx.reN (M:=116)
 refine bZ (cx:=aO gl 116 pu) (rs:= [.cell 4 152]) rfl Tryd.func113 rfl rfl rfl (by simp only[List.length_cons,List.length_nil];decide) (by simp only[go_sem]) ?_
 simp only[cO,go_sem]
 have hy:=True.intro
 refine aa hcx [] _ [none,none] rfl rfl rfl ?_ fv
 refine aa hcx [] _ [none] rfl rfl rfl ?_ fv
 refine bH hcx cK [] _ [none,none] rfl rfl rfl rfl ?_ mJ
 refine ae fun K1 hK1=> ?_
 refine aa hcx [] _ [] rfl rfl rfl ?_ fv
 refine Tr.k [2,4,5,6,7,21,22] ?_
 refine Tr.blk ?_
 refine cm (α:=Nat) (fun a=> [(2,?v2_1),(4,?v4_1),(5,?v5_1),(6,?v6_1),(7,?v7_1),(21,?v21_1),(22,.val (nI a))]) (fun a=> [some (cl wC s.l),some (cl wC (List.replicate 8 0)),some (cl wC (cd b 64)),some (cl wC [(ez (cd b 64) s a).a,(ez (cd b 64) s a).b,(ez (cd b 64) s a).c,(ez (cd b 64) s a).d]),some (cl wC [(ez (cd b 64) s a).e,(ez (cd b 64) s a).f,(ez (cd b 64) s a).g,(ez (cd b 64) s a).h])]) (fun a=>a≤64) (fun a=>64 - a) (0) ?_ ?le_1 ?hh_1 ?bd_1
 case hh_1=>exact rfl
 case le_1=>exact LT
 · omega
 rintro t ht
 generalize hr:ez (cd b 64) s t=r
 refine aa hcx [] _ [] rfl rfl rfl ?_ fv
 refine ae fun K2 hK2=> ?_
 refine bS rfl (fun hc23=> ?_) (fun hc23=> ?_)
 ·
  refine Tr.skip ?_
  refine hK2 _ ?_
  refine ae fun K3 hK3=> ?_
  refine Tr.blk ?_
  refine aa hcx [1000024,1000025] _ [] rfl rfl rfl ?_ fv
  refine Tr.k [2,4,5,6,7,8,9,21,22] ?_
  refine bH hcx cK [1000050] _ [] rfl rfl rfl rfl ?_ mJ
  refine Tr.k [2,4,5,6,7,10,21,22] ?_
  refine bH hcx cK [1000071] _ [] rfl rfl rfl rfl ?_ mJ
  refine Tr.k [2,4,5,6,7,10,11,21,22] ?_
  refine aa hcx [] _ [] rfl rfl rfl ?_ fv
  refine Tr.k [2,4,5,6,7,10,11,21,22] ?_
  refine bG hcx [] _ [] rfl rfl rfl ?_ fv
  refine hK3 _ ?_
  refine bG hcx [] _ [] rfl rfl rfl ?_ fv
  exact ⟨t+1,⟨by omega,O1⟩,LT,by simp only[ez,hr];rfl⟩
 obtain rfl:t=64:=by omega
 refine Tr.exit ?_
 refine hK1 _ ?_
 refine ae fun K4 hK4=> ?_
 refine aa hcx [] _ [] rfl rfl rfl ?_ fv
 refine Tr.k [2,4,6,7,94] ?_
 refine Tr.blk ?_
 refine cm (α:=Nat) (fun a=> [(2,?v2_2),(4,?v4_2),(6,?v6_2),(7,?v7_2),(94,.val (nI a))]) (fun a=> [some (cl wC (Sg s r a)),some (cl wC (List.replicate 8 0)),some (cl wC (cd b 64)),some (cl wC [r.a,r.b,r.c,r.d]),some (cl wC [r.e,r.f,r.g,r.h])]) (fun a=>a≤4) (fun a=>4 - a) (0) ?_ ?le_2 ?hh_2 ?bd_2
 case hh_2=>exact rfl
 case le_2=>exact LT
 · omega
 rintro i hi
 refine aa hcx [] _ [] rfl rfl rfl ?_ fv
 refine ae fun K5 hK5=> ?_
 refine bS rfl (fun hc95=> ?_) (fun hc95=> ?_)
 ·
  refine Tr.skip ?_
  refine hK5 _ ?_
  refine ae fun K6 hK6=> ?_
  refine Tr.blk ?_
  refine aa hcx [1000096] _ [] rfl rfl rfl ?_ fv
  refine bH hcx cK [] _ [] rfl rfl rfl rfl ?_ mJ
  refine gK hcx cK [] _ [] rfl rfl rfl rfl ?_ mJ
  refine hK6 _ ?_
  refine Tr.k [2,4,6,7,94] ?_
  refine bG hcx [] _ [] rfl rfl rfl ?_ fv
  exact ⟨i+1,⟨by omega,O1⟩,LT,by rcases (show i=0∨i=1∨i=2∨i=3 by omega) with rfl|rfl|rfl|rfl<;>rfl⟩
 obtain rfl:i=4:=by omega
 refine Tr.exit ?_
 refine hK4 _ ?_
 refine aa hcx [] _ [] rfl rfl rfl ?_ fv
 exact Tr.ret LV
end Go.Sx
namespace Go.Sx
open Go.RowKit Go.Proofs
set_option maxRecDepth 100000
set_option maxHeartbeats 8000000
theorem ze {p:Prop} (e:p:=by intro KZ hZ;simp -implicitDefEqProofs (disch:=first|omega| (simp only[go_sem,lA,lD,lT] <;>omega) |decide) only[go_sem,↓reduceIte,Nat.reduceEqDiff,reduceCtorEq,Nat.reduceLT,Nat.reduceBEq,Nat.reduceAdd,hy];exact hZ) :p:=e
theorem LW {p:Prop} (e:p:=by simp -implicitDefEqProofs (disch:=first|omega| (simp only[go_sem,lA,lD,lT] <;>omega) |decide) only[go_sem,↓reduceIte,Nat.reduceEqDiff,reduceCtorEq];all_goals (rfl)) :p:=e
theorem WW {gl:Nat→C} {M:Nat} {pu:Nat→List C→Option C} (hcx:CxOK (aO gl M pu)) :FC Tryd.prog gl 103 ([] :List C) [] (.agg F0.cells) [] :=by
 replace hcx:=hcx.reN (M:=3)
 refine bZ (cx:=aO gl 3 pu) (rs:= [.cell 0 155]) rfl Tryd.func103 rfl rfl rfl (by simp only[List.length_cons,List.length_nil];decide) (by simp only[Str.cells,aM,bq,br,bA,aT,aU,ay,aD,aN,Bool.and_self,Bool.and_true]) ?_
 simp only[cO,go_sem]
 have hy:=True.intro
 refine aa hcx [] _ [none] rfl rfl rfl ?_ ze
 refine aa hcx [] _ [] rfl rfl rfl ?_ ze
 exact Tr.ret LW
theorem ja {p:Prop} (e:p:=by intro KZ hZ;simp -implicitDefEqProofs (disch:=first|omega| (simp only[go_sem,lA,lD,lT,d7,xu] <;>omega) |decide) only[go_sem,↓reduceIte,Nat.reduceEqDiff,reduceCtorEq,Nat.reduceLT,Nat.reduceBEq,Nat.reduceAdd,Str.cells,h113,hno,d7,nN,hy];exact hZ) :p:=e
theorem LX {p:Prop} (e:p:=by intro KZ hZ;simp -implicitDefEqProofs (disch:=first|omega| (simp only[go_sem,lA,lD,lT,d7,xu] <;>omega) |decide) only[go_sem,↓reduceIte,Nat.reduceEqDiff,reduceCtorEq,Nat.reduceLT,Nat.reduceBEq,Nat.reduceAdd,Str.cells,h113,hno,d7,nN,hy];refine And.intro ?_ hZ;exact rfl) :p:=e
theorem LY {p:Prop} (e:p:=by simp -implicitDefEqProofs (disch:=first|omega| (simp only[go_sem,lA,lD,lT,d7,xu] <;>omega) |decide) only[go_sem,↓reduceIte,Nat.reduceEqDiff,reduceCtorEq];all_goals (rw[hGe];rfl)) :p:=e
theorem WX {gl:Nat→C} {M:Nat} {pu:Nat→List C→Option C} (hcx:CxOK (aO gl M pu)) (h113: ∀ (s:S8) (b:List UInt8),b.length=64→pu 113 [.agg (cl wC s.l),sl bC .no b] =some (.agg (cl wC (comp s b).l))) (hno: ∀ (g:Nat) (xs:List C),ew xs=true→pu g xs=none) (F:Str) (t:List UInt8) (hb:F.blk.length=64) (hn:F.n+t.length< 1152921504606846976) :FC Tryd.prog gl 104 [.agg F.cells,.val (str t)] [] (.agg (dn F t).cells) [] :=by
 replace hcx:=hcx.reN (M:=38)
 refine bZ (cx:=aO gl 38 pu) (rs:= [.cell 4 155]) rfl Tryd.func104 rfl rfl rfl (by simp only[List.length_cons,List.length_nil];decide) (by simp only[Str.cells,aM,bq,br,bA,aT,aU,ay,aD,aN,Bool.and_self,Bool.and_true]) ?_
 simp only[cO,go_sem]
 have hy:=True.intro
 refine aa hcx [] _ [none,none] rfl rfl rfl ?_ ja
 refine Tr.k [1,2,4] ?_
 refine ae fun K1 hK1=> ?_
 refine Tr.blk ?_
 refine cm (α:=Nat) (fun a=> [(1,.val (str (t.drop a))),(2,?v2_1),(4,?v4_1)]) (fun a=> [some (dn F (t.take a)).cells,some (cl wC Z8++(cl bC (List.replicate 64 0)++[.val (nU 0)]))]) (fun a=>a≤t.length) (fun a=>t.length - a) (0) ?_ ?le_1 ?hh_1 ?bd_1
 case hh_1=>exact rfl
 case le_1=>exact LT
 · omega
 rintro c hc
 have hGn:=mI (t.take c) F
 have hGb:=i2 (t.take c) F
 rw[hb] at hGb
 rw[List.length_take,Nat.min_eq_left hc] at hGn
 have hdl: (t.drop c).length=t.length - c:=List.length_drop
 generalize hG:dn F (t.take c) =G at*
 generalize hL:t.drop c=L at*
 refine ae fun K2 hK2=> ?_
 refine aa hcx [] _ [] rfl rfl rfl ?_ ja
 refine bS rfl (fun hc8=> ?_) (fun hc8=> ?_)
 ·
  have hlp:0< L.length:=List.length_pos_iff.2 hc8
  refine Tr.skip ?_
  refine hK2 _ ?_
  refine Tr.blk ?_
  refine aa hcx [1000012] _ [] rfl rfl rfl ?_ ja
  refine aa hcx [1000017] _ [] rfl rfl rfl ?_ ja
  refine aa hcx [1000020] _ [] rfl rfl rfl ?_ ja
  refine aa hcx [] _ [] rfl rfl rfl ?_ ja
  refine Tr.k [1,2,4,5,6] ?_
  refine aa hcx [] _ [] rfl rfl rfl ?_ ja
  refine bS rfl (fun hc30=> ?_) (fun hc30=> ?_)
  ·
   refine gK hcx cK [] _ [] rfl rfl rfl rfl ?_ LX
   refine ⟨c+min L.length (64 - G.n % 64),⟨by omega,O1⟩,?_,by dsimp only;rw[xx F G t L c hG hL hGb hc8];first| (rw[if_pos hc30] <;>rfl) | (rw[if_neg hc30] <;>rfl)⟩
   (simp only[bE,aP,↓bD,↓reduceIte,Nat.reduceEqDiff,aE,aQ,aF,aR,aS,and_true,true_and];all_goals (repeat' first|exact CLe.refl _|exact True.intro| (refine bR ?_;first|rfl| (simp only[List.take_zero];done)) |exact cH (by omega) |exact b9 (by omega) |exact cu (by omega) |exact cw (by omega) |with_reducible apply And.intro))
   all_goals (rw[←hL,List.drop_drop];exact CLe.refl _)
  refine Tr.skip ?_
  refine ⟨c+min L.length (64 - G.n % 64),⟨by omega,O1⟩,?_,by dsimp only;rw[xx F G t L c hG hL hGb hc8];first| (rw[if_pos hc30] <;>rfl) | (rw[if_neg hc30] <;>rfl)⟩
  (simp only[bE,aP,↓bD,↓reduceIte,Nat.reduceEqDiff,aE,aQ,aF,aR,aS,and_true,true_and];all_goals (repeat' first|exact CLe.refl _|exact True.intro| (refine bR ?_;first|rfl| (simp only[List.take_zero];done)) |exact cH (by omega) |exact b9 (by omega) |exact cu (by omega) |exact cw (by omega) |with_reducible apply And.intro))
  all_goals (rw[←hL,List.drop_drop];exact CLe.refl _)
 have hL0:L= [] :=Classical.not_not.1 hc8
 have hc0:c=t.length:=by rw[hL0] at hdl;simp only[List.length_nil] at hdl;omega
 have hGe:dn F t=G:=by rw[←hG,hc0,List.take_length]
 refine Tr.exit ?_
 refine hK1 _ ?_
 refine aa hcx [] _ [] rfl rfl rfl ?_ ja
 exact Tr.ret LY
theorem ed {p:Prop} (e:p:=by intro KZ hZ;simp -implicitDefEqProofs (disch:=first|omega| (simp only[go_sem,lA,lD,lT,d7,jK,gZ,i2,hb] <;>omega) |decide) only[go_sem,↓reduceIte,Nat.reduceEqDiff,reduceCtorEq,Nat.reduceLT,Nat.reduceBEq,Nat.reduceAdd,Str.cells,h104,d7,jK,gZ,jH,tH,hy];exact hZ) :p:=e
theorem L0 {p:Prop} (e:p:=by simp -implicitDefEqProofs (disch:=first|omega| (simp only[go_sem,lA,lD,lT,d7,jK,gZ,i2,hb] <;>omega) |decide) only[go_sem,↓reduceIte,Nat.reduceEqDiff,reduceCtorEq];all_goals (simp[md,gZ])) :p:=e
theorem WY {gl:Nat→C} {M:Nat} {pu:Nat→List C→Option C} (hcx:CxOK (aO gl M pu)) (h104: ∀ (s:S8) (blk:List UInt8) (n:Nat) (t:List UInt8),blk.length=64→n+t.length< 1152921504606846976→pu 104 [.agg (cl wC s.l++(cl bC blk++[.val (nU n)])),.val (str t)] =some (.agg (dn ⟨s,blk,n⟩ t).cells)) (F:Str) (hb:F.blk.length=64) (hn:F.n< 576460752303423488) :FC Tryd.prog gl 105 [.agg F.cells] [] (.agg (cl bC (md F))) [] :=by
 replace hcx:=hcx.reN (M:=58)
 refine bZ (cx:=aO gl 58 pu) (rs:= [.cell 2 141]) rfl Tryd.func105 rfl rfl rfl (by simp only[List.length_cons,List.length_nil];decide) (by simp only[go_sem]) ?_
 simp only[cO,go_sem]
 have hy:=True.intro
 have hz:gj F.n< 64:=Nat.mod_lt _ (by decide)
 refine aa hcx [] _ [none,none] rfl rfl rfl ?_ ed
 refine aa hcx [1000010] _ [] rfl rfl rfl ?_ ed
 refine aa hcx [1000011] _ [] rfl rfl rfl ?_ ed
 refine Tr.k [1,2,3,4] ?_
 refine ae fun K1 hK1=> ?_
 refine Tr.blk ?_
 refine cm (α:=Nat) (fun a=> [(1,?v1_1),(2,?v2_1),(3,?v3_1),(4,sl bC (.own 1) (128::List.replicate a 0))]) (fun a=> [some F.cells,some (cl bC (List.replicate 32 0))]) (fun a=>a≤gj F.n) (fun a=>gj F.n - a) (0) ?_ ?le_1 ?hh_1 ?bd_1
 case hh_1=>exact rfl
 case le_1=> (simp only[bE,aP,↓bD,↓reduceIte,Nat.reduceEqDiff,aE,aQ,aF,aR,aS,and_true,true_and];all_goals (repeat' first|exact CLe.refl _|exact True.intro| (refine bR ?_;first|rfl| (simp only[List.take_zero];done)) |exact cH (by omega) |exact b9 (by omega) |exact cu (by omega) |exact cw (by omega) |with_reducible apply And.intro));exact CLe.full _ _ _
 · omega
 rintro z hzz
 refine ae fun K2 hK2=> ?_
 refine aa hcx [] _ [] rfl rfl rfl ?_ ed
 refine bS rfl (fun hc19=> ?_) (fun hc19=> ?_)
 ·
  refine Tr.skip ?_
  refine hK2 _ ?_
  refine Tr.blk ?_
  refine bG hcx [20,1000022] _ [] rfl rfl rfl ?_ ed
  refine ⟨z+1,⟨by unfold gj at*;omega,by unfold gj at*;omega⟩,?_,rfl⟩
  (simp only[bE,aP,↓bD,↓reduceIte,Nat.reduceEqDiff,aE,aQ,aF,aR,aS,and_true,true_and];all_goals (repeat' first|exact CLe.refl _|exact True.intro| (refine bR ?_;first|rfl| (simp only[List.take_zero];done)) |exact cH (by omega) |exact b9 (by omega) |exact cu (by omega) |exact cw (by omega) |with_reducible apply And.intro))
  all_goals (rw[List.replicate_succ'];exact CLe.refl _)
 obtain rfl:z=gj F.n:=by unfold gj at*;omega
 refine Tr.exit ?_
 refine hK1 _ ?_
 refine ae fun K3 hK3=> ?_
 refine aa hcx [] _ [] rfl rfl rfl ?_ ed
 refine Tr.k [1,2,3,4,23] ?_
 refine Tr.blk ?_
 refine cm (α:=Nat) (fun a=> [(1,?v1_2),(2,?v2_2),(3,?v3_2),(4,sl bC (.own 1) (128::List.replicate (gj F.n) 0++mc (8*F.n) a)),(23,.val (nI a))]) (fun a=> [some F.cells,some (cl bC (List.replicate 32 0))]) (fun a=>a≤8) (fun a=>8 - a) (0) ?_ ?le_2 ?hh_2 ?bd_2
 case hh_2=>exact rfl
 case le_2=> (simp only[bE,aP,↓bD,↓reduceIte,Nat.reduceEqDiff,aE,aQ,aF,aR,aS,and_true,true_and];all_goals (repeat' first|exact CLe.refl _|exact True.intro| (refine bR ?_;first|rfl| (simp only[List.take_zero];done)) |exact cH (by omega) |exact b9 (by omega) |exact cu (by omega) |exact cw (by omega) |with_reducible apply And.intro));all_goals (simp only[mc,List.range_zero,List.map_nil,List.append_nil];exact CLe.refl _)
 · omega
 rintro k hk
 refine aa hcx [] _ [] rfl rfl rfl ?_ ed
 refine ae fun K4 hK4=> ?_
 refine bS rfl (fun hc24=> ?_) (fun hc24=> ?_)
 ·
  refine Tr.skip ?_
  refine hK4 _ ?_
  refine ae fun K5 hK5=> ?_
  refine Tr.blk ?_
  refine aa hcx [1000025] _ [] rfl rfl rfl ?_ ed
  refine bG hcx [26,1000034] _ [] rfl rfl rfl ?_ ed
  refine hK5 _ ?_
  refine bG hcx [] _ [] rfl rfl rfl ?_ ed
  refine ⟨k+1,⟨by omega,O1⟩,?_,rfl⟩
  (simp only[bE,aP,↓bD,↓reduceIte,Nat.reduceEqDiff,aE,aQ,aF,aR,aS,and_true,true_and];all_goals (repeat' first|exact CLe.refl _|exact True.intro| (refine bR ?_;first|rfl| (simp only[List.take_zero];done)) |exact cH (by omega) |exact b9 (by omega) |exact cu (by omega) |exact cw (by omega) |with_reducible apply And.intro))
  all_goals (rw[ub,←List.append_assoc];exact CLe.refl _)
 obtain rfl:k=8:=by omega
 refine Tr.exit ?_
 refine hK3 _ ?_
 refine aa hcx [] _ [] rfl rfl rfl ?_ ed
 refine aa hcx [] _ [none] rfl rfl rfl ?_ ed
 refine ae fun K6 hK6=> ?_
 refine aa hcx [] _ [] rfl rfl rfl ?_ ed
 refine Tr.k [1,2,6,40] ?_
 refine Tr.blk ?_
 refine cm (α:=Nat) (fun a=> [(1,?v1_3),(2,?v2_3),(6,?v6_3),(40,.val (nI a))]) (fun a=> [some (dn F (lq F.n)).cells,some (cl bC (List.replicate 32 0)),some (cl bC (oe (dn F (lq F.n)).s a++List.replicate (32 - a) 0))]) (fun a=>a≤32) (fun a=>32 - a) (0) ?_ ?le_3 ?hh_3 ?bd_3
 case hh_3=>exact rfl
 case le_3=>exact LT
 · omega
 rintro i hi
 refine aa hcx [] _ [] rfl rfl rfl ?_ ed
 refine ae fun K7 hK7=> ?_
 refine bS rfl (fun hc41=> ?_) (fun hc41=> ?_)
 ·
  refine Tr.skip ?_
  refine hK7 _ ?_
  refine ae fun K8 hK8=> ?_
  refine Tr.blk ?_
  refine aa hcx [1000042] _ [] rfl rfl rfl ?_ ed
  refine bG hcx [] _ [] rfl rfl rfl ?_ ed
  refine hK8 _ ?_
  refine bG hcx [] _ [] rfl rfl rfl ?_ ed
  exact ⟨i+1,⟨by omega,O1⟩,LT,by dsimp only;rw[←xy _ i hc41];rfl⟩
 obtain rfl:i=32:=by omega
 refine Tr.exit ?_
 refine hK6 _ ?_
 refine aa hcx [] _ [] rfl rfl rfl ?_ ed
 exact Tr.ret L0
end Go.Sx
namespace Go.Sx
open Go.RowKit Go.Proofs
set_option maxRecDepth 100000
set_option maxHeartbeats 8000000
theorem ls {p:Prop} (e:p:=by intro KZ hZ;simp -implicitDefEqProofs (disch:=first|omega| (simp only[go_sem,lA,lD,lT,d7,i2,sc,mI,xw,lr,hlp1,hlp2] <;>omega) |decide) only[go_sem,↓reduceIte,Nat.reduceEqDiff,reduceCtorEq,Nat.reduceLT,Nat.reduceBEq,Nat.reduceAdd,h103,h104,h105,h74,Str.cells,tH,lr,hy];exact hZ) :p:=e
theorem DD {p:Prop} (e:p:=by intro KZ hZ;simp -implicitDefEqProofs (disch:=first|omega| (simp only[go_sem,lA,lD,lT,d7,i2,sc,mI,xw,lr,hlp1,hlp2] <;>omega) |decide) only[go_sem,↓reduceIte,Nat.reduceEqDiff,reduceCtorEq,Nat.reduceLT,Nat.reduceBEq,Nat.reduceAdd,h103,h104,h105,h74,Str.cells,tH,lr,hy];refine And.intro ?_ hZ;exact rfl) :p:=e
theorem Sk {p:Prop} (e:p:=by simp -implicitDefEqProofs (disch:=first|omega| (simp only[go_sem,lA,lD,lT,d7,i2,sc,mI,xw,lr,hlp1,hlp2] <;>omega) |decide) only[go_sem,↓reduceIte,Nat.reduceEqDiff,reduceCtorEq];all_goals (simp only[eR,List.take_length])) :p:=e
theorem aaO {gl:Nat→C} {M:Nat} {pu:Nat→List C→Option C} (hcx:CxOK (aO gl M pu)) (h103:pu 103 [] =some (.agg F0.cells)) (h104: ∀ (s:S8) (blk:List UInt8) (n:Nat) (t:List UInt8),blk.length=64→n+t.length< 1152921504606846976→pu 104 [.agg (cl wC s.l++(cl bC blk++[.val (nU n)])),.val (str t)] =some (.agg (dn ⟨s,blk,n⟩ t).cells)) (h105: ∀ (s:S8) (blk:List UInt8) (n:Nat),blk.length=64→n< 576460752303423488→pu 105 [.agg (cl wC s.l++(cl bC blk++[.val (nU n)]))] =some (.agg (cl bC (md ⟨s,blk,n⟩)))) (h74: ∀s:List UInt8,s.length< 70368744177664→pu 74 [.val (str s)] =some (sl bC (.own 1) (wb s))) (tag:Int) (parts:List (List UInt8)) (hl: (cL tag parts).length< 1099511627776) :FC Tryd.prog gl 78 [.val (.int .i64 tag),sl sC .no parts] [] (.agg (cl bC ((eR (cL tag parts)).take 16))) [] :=by
 replace hcx:=hcx.reN (M:=32)
 refine bZ (cx:=aO gl 32 pu) (rs:= [.cell 4 29]) rfl Tryd.func78 rfl rfl rfl (by simp only[List.length_cons,List.length_nil];decide) (by simp only[go_sem]) ?_
 simp only[cO,go_sem]
 have hy:=True.intro
 have hlp:=qv tag parts hl
 have hlp1:=hl
 have hpl:=uc tag parts hl
 have hlp2:=True.intro
 refine aa hcx [] _ [none] rfl rfl rfl ?_ ls
 refine bH hcx cK [] _ [none] rfl rfl rfl rfl ?_ DD
 refine ae fun K1 hK1=> ?_
 refine aa hcx [] _ [] rfl rfl rfl ?_ ls
 refine Tr.k [4,5,15,16,17] ?_
 refine Tr.blk ?_
 refine cm (α:=Nat) (fun a=> [(4,?v4_1),(5,?v5_1),(15,?v15_1),(16,?v16_1),(17,.val (nI a))]) (fun a=> [some (cl bC (List.replicate 16 0)),some (dn F0 (cL tag (parts.take a))).cells]) (fun a=>a≤parts.length) (fun a=>parts.length - a) (0) ?_ ?le_1 ?hh_1 ?bd_1
 case hh_1=>exact rfl
 case le_1=>exact LT
 · omega
 rintro i hi
 refine aa hcx [] _ [] rfl rfl rfl ?_ ls
 refine ae fun K2 hK2=> ?_
 refine bS rfl (fun hc18=> ?_) (fun hc18=> ?_)
 ·
  obtain ⟨hlp1,hlp2⟩ :=hlp i hc18
  refine Tr.skip ?_
  refine hK2 _ ?_
  refine ae fun K3 hK3=> ?_
  refine Tr.blk ?_
  refine aa hcx [1000020] _ [] rfl rfl rfl ?_ ls
  refine gK hcx cK [] _ [] rfl rfl rfl rfl ?_ DD
  refine hK3 _ ?_
  refine bG hcx [] _ [] rfl rfl rfl ?_ ls
  exact ⟨i+1,⟨by omega,O1⟩,LT,by dsimp only;rw[qT tag parts i hc18,na] <;>rfl⟩
 obtain rfl:i=parts.length:=by omega
 have hlp1:=hl
 have hlp2:=True.intro
 simp only[List.take_length]
 refine Tr.exit ?_
 refine hK1 _ ?_
 refine aa hcx [] _ [none] rfl rfl rfl ?_ ls
 refine aa hcx [] _ [] rfl rfl rfl ?_ ls
 exact Tr.ret Sk
end Go.Sx
namespace Go.Sx
open Go.RowKit Go.Proofs
end Go.Sx
