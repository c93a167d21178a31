/-
   And what follows.
-/
import Derived.Test.YtmoaeemdlompaaaDoorProg
import Derived.KernelRfl
import Derived.Test.YtmoaeemdlompaaaDoorPaj
import Derived.Test.YtmoaeemdlompaaaDoorPak
set_option linter.unusedSimpArgs false
set_option linter.unusedVariables false
namespace Go.Sx
open Go.RowKit
theorem tC {α:Type} (l r:List α) (x v:α) (t:Nat) (h:l.length=t) : (l++x::r).set t v=l++v::r:=by
 subst h;simp
theorem jG {α:Type} (l:List α) (x v:α) (n t:Nat) (h:l.length=t) (h2:t< n) : (l++List.replicate (n - t) x).set t v=l++v::List.replicate (n - 1 - t) x:=by
 have e:n - t= (n - 1 - t)+1:=by omega
 rw[e,List.replicate_succ,tC _ _ _ _ _ h]
theorem lj {α:Type} [Inhabited α] (l r:List α) (x:α) (t:Nat) (h:l.length=t) :gt (l++x::r) t=x:=by
 subst h;simp[gt,List.getD]
theorem jH {α:Type} [Inhabited α] (l r:List α) (t:Nat) (h:t< l.length) :gt (l++r) t=gt l t:=by
 simp[gt,List.getD,List.getElem?_append_left h]
theorem dN {α:Type} [Inhabited α] (l:List α) (j:Nat) (h:j< l.length) :l.take (j+1) =l.take j++[gt l j] :=by
 rw[List.take_add_one,List.getElem?_eq_getElem h];simp[gt,List.getD,List.getElem?_eq_getElem h]
theorem t7 {α:Type} [Inhabited α] (l:List α) (j:Nat) (h:j< l.length) :l.take j++[gt l j] =l.take (j+1) := (dN l j h).symm
def le (m:Nat) :List UInt8:=if h:m=0 then [] else UInt8.ofNat (m % 256) ::le (m / 256)
termination_by m
decreasing_by omega
theorem gX:le 0= [] :=by rw[le];simp
theorem ig (m:Nat) (h:m≠0) :le m=UInt8.ofNat (m % 256) ::le (m / 256) :=by rw[le];simp[h]
def cW (n:Int) :List UInt8:=
 if 0≤n then UInt8.ofNat (128+(le n.toNat).length) :: (le n.toNat).reverse
 else UInt8.ofNat (127 - (le (-1 - n).toNat).length) :: ((le (-1 - n).toNat).reverse.map fun c=>255 - c)
def wb (s:List UInt8) :List UInt8:=cW s.length++s
theorem fl (k:Nat) : ∀m,m< 256 ^ k→(le m).length≤k:=by
 induction k with
 |zero=>intro m h;have:m=0:=by simpa using h
        subst this;simp[gX]
 |succ k ih=>
  intro m h
  by_cases hm:m=0
  · subst hm;simp[gX]
  · rw[ig m hm]
    have:=ih (m / 256) (by rw[Nat.pow_succ] at h;exact Nat.div_lt_of_lt_mul (by omega))
    simp;omega
theorem xh (s:List UInt8) (h:s.length< 18446744073709551616) : (wb s).length≤s.length+9:=by
 have:=fl 8 s.length (by simpa using h)
 simp[wb,cW];omega
theorem xi (s:List UInt8) :1≤(wb s).length:=by
 unfold wb cW;split<;>simp<;>omega
theorem n8: ∀ (k m:Nat),m< 256 ^ k→(k=0∨256 ^ (k - 1)≤m)→(le m).length=k
 |0,m,h,_=>by
  have:m=0:=by simpa using h
  subst this;simp[gX]
 |k+1,m,h,h2=>by
  have h3:256 ^ k≤m:=by simpa using h2
  have hp:0< 256 ^ k:=Nat.pow_pos (by decide)
  have hm:m≠0:=by omega
  rw[ig m hm,List.length_cons,n8 k (m / 256) (by rw[Nat.pow_succ] at h;exact Nat.div_lt_of_lt_mul (by omega)) ?_]
  rcases Nat.eq_zero_or_pos k with rfl|hk
  · exact .inl rfl
  · right
    rw[Nat.le_div_iff_mul_le (by decide),←Nat.pow_succ]
    rw[show (k - 1).succ=k by omega];exact h3
def be (m k:Nat) :List UInt8:= (List.range k).map fun j=>UInt8.ofNat (m>>> (8*(k - 1 - j)))
theorem gh (m k:Nat) : (be m k).length=k:=by simp[be]
theorem vZ (m k j:Nat) (h:j< k) :gt (be m k) j=UInt8.ofNat (m>>> (8*(k - 1 - j))) :=by
 simp[be,gt,List.getD,h]
theorem Kg: ∀ (j m:Nat),j< (le m).length→gt (le m) j=UInt8.ofNat (m>>> (8*j))
 |0,m,h=>by
  have hm:m≠0:=by rintro rfl;simp[gX] at h
  rw[ig m hm]
  show UInt8.ofNat (m % 256) =_
  apply UInt8.toNat_inj.1;simp
 |j+1,m,h=>by
  have hm:m≠0:=by rintro rfl;simp[gX] at h
  rw[ig m hm] at h ⊢
  rw[xZ,Kg j (m / 256) (by simpa using h)]
  have:8*(j+1) =8+8*j:=by omega
  rw[this,Nat.shiftRight_add,show m>>>8=m / 256 from Nat.shiftRight_eq_div_pow m 8]
theorem Dk {α:Type} [Inhabited α] (l:List α) (j:Nat) (h:j< l.length) :gt l.reverse j=gt l (l.length - 1 - j) :=by
 simp[gt,List.getD,List.getElem?_reverse h]
theorem Dl {α:Type} [Inhabited α] (l l':List α) (h:l.length=l'.length) (hg: ∀i< l.length,gt l i=gt l' i) :l=l':=by
 apply List.ext_getElem h
 intro i h1 h2
 have:=hg i h1
 simpa[gt,List.getD,List.getElem?_eq_getElem h1,List.getElem?_eq_getElem h2] using this
theorem Dm (m:Nat) : (le m).reverse=be m (le m).length:=by
 refine Dl _ _ (by simp[gh]) fun i hi=> ?_
 have hi':i< (le m).length:=by simpa using hi
 rw[Dk _ _ hi',vZ _ _ _ hi',Kg _ _ (by omega)]
theorem Dn (x:UInt8) :x ^^^ 255=255 - x:=by
 apply UInt8.toNat_inj.1
 have hx:=x.toNat_lt
 rw[UInt8.toNat_xor,UInt8.toNat_sub_of_le _ _ (by rw[UInt8.le_iff_toNat_le];show _≤255;omega)]
 show x.toNat ^^^ 255=255 - x.toNat
 have h1:BitVec.ofNat 8 x.toNat ^^^ BitVec.allOnes 8= ~~~(BitVec.ofNat 8 x.toNat) :=BitVec.xor_allOnes
 have h2:=congrArg BitVec.toNat h1
 rw[BitVec.toNat_xor,BitVec.toNat_not,BitVec.toNat_ofNat,BitVec.toNat_allOnes,Nat.mod_eq_of_lt (by omega)] at h2
 simpa using h2
theorem Do {α β:Type} [Inhabited α] [Inhabited β] (l:List α) (f:α→β) (j:Nat) (h:j< l.length) :gt (l.map f) j=f (gt l j) :=by
 simp[gt,List.getD,List.getElem?_eq_getElem h]
def wI (m:Nat) (x:UInt8) :List UInt8:= (UInt8.ofNat (128+(le m).length) ^^^ x) :: (be m (le m).length).map (· ^^^ x)
theorem ii (m:Nat) :cW m=wI m 0:=by
 unfold cW wI
 rw[if_pos (by omega),←Dm]
 simp
theorem m8 (m:Nat) (h: (le m).length≤8) :cW (-1 - (m:Int)) =wI m 255:=by
 unfold cW wI
 have e: (-1 - (-1 - (m:Int))).toNat=m:=by omega
 rw[if_neg (by omega),e,←Dm]
 have h2:UInt8.ofNat (127 - (le m).length) =UInt8.ofNat (128+(le m).length) ^^^ 255:=by
  generalize (le m).length=k at h
  have key: ∀k:Fin 9,UInt8.ofNat (127 - k.val) =UInt8.ofNat (128+k.val) ^^^ 255:=by decide
  exact key ⟨k,by omega⟩
 rw[h2]
 simp only[Dn]
theorem pZ (m k:Nat) :m>>> (8*k) =m / 256 ^ k:=by
 rw[Nat.shiftRight_eq_div_pow,Nat.pow_mul]
theorem p7 (m k:Nat) (h:m< 256 ^ k) (h2: ¬0< k∨0< m>>> (8*(k - 1))) :k= (le m).length:=by
 refine (n8 k m h ?_).symm
 rcases h2 with h2|h2
 · left;omega
 · right
   rw[pZ] at h2
   have hp:0< 256 ^ (k - 1) :=Nat.pow_pos (by decide)
   exact (Nat.le_div_iff_mul_le hp).1 h2|> (by simpa using ·)
theorem y6 (m k:Nat) (_:0< k) (h2: ¬0< m>>> (8*(k - 1))) :m< 256 ^ (k - 1) :=by
 rw[pZ] at h2
 have hp:0< 256 ^ (k - 1) :=Nat.pow_pos (by decide)
 have:m / 256 ^ (k - 1) =0:=Nat.eq_zero_of_not_pos h2
 exact (Nat.div_eq_zero_iff_lt hp).1 this
theorem p8 (m:Nat) (x:UInt8) (a:Nat) (h:a< (le m).length) : ((be m (le m).length).map (· ^^^ x)).take a++[UInt8.ofNat (m>>> (8*((le m).length - 1 - a))) ^^^ x] = ((be m (le m).length).map (· ^^^ x)).take (a+1) :=by
 have hl:a< ((be m (le m).length).map (· ^^^ x)).length:=by simpa[gh] using h
 rw[dN _ _ hl,Do _ _ _ (by rw[gh];exact h),vZ _ _ _ h]
theorem y7 (l:List UInt8) (f:UInt8→UInt8) (a:Nat) (h:a< l.length) : (l.reverse.map f).take a++[f (gt l (l.length - 1 - a))] = (l.reverse.map f).take (a+1) :=by
 rw[dN _ _ (by simpa using h),Do _ _ _ (by simpa using h),Dk _ _ h]
theorem FW {α:Type} (n:Nat) (x:α) :List.replicate n x++[x] =List.replicate (n+1) x:=by rw[List.replicate_succ']
theorem tD {α:Type} (l:List α) (x y:α) (n t:Nat) :l++x::List.replicate (n - 1 - t) y= (l++[x])++List.replicate (n - (t+1)) y:=by
 rw[show n - (t+1) =n - 1 - t by omega];simp
theorem FX {α:Type} [Inhabited α] (l:List α) (n t:Nat) (y:α) (h:t< l.length) :l.take t++gt l t::List.replicate (n - 1 - t) y=l.take (t+1)++List.replicate (n - (t+1)) y:=by
 rw[tD,dN l t h]
theorem R1 (m n:Nat) (h:le m=le n) :m=n:=by
 induction m using Nat.strongRecOn generalizing n with
 |ind m ih=>
  by_cases hm:m=0
  · subst hm
    by_cases hn:n=0
    · exact hn.symm
    · rw[gX,ig n hn] at h;cases h
  · by_cases hn:n=0
    · subst hn;rw[gX,ig m hm] at h;cases h
    · rw[ig m hm,ig n hn] at h
      obtain ⟨h1,h2⟩ :=List.cons.inj h
      have h3:=congrArg UInt8.toNat h1
      simp at h3
      have:=ih (m / 256) (by omega) _ h2
      omega
theorem yE (m n:Nat) (x y:List UInt8) (hm:m< 18446744073709551616) (hn:n< 18446744073709551616) (h:cW m++x=cW n++y) :m=n∧x=y:=by
 have h1:=fl 8 m (by simpa using hm)
 have h2:=fl 8 n (by simpa using hn)
 unfold cW at h
 rw[if_pos (by omega),if_pos (by omega)] at h
 simp only[Int.toNat_natCast,List.cons_append] at h
 obtain ⟨h3,h4⟩ :=List.cons.inj h
 have h5:=congrArg UInt8.toNat h3
 simp at h5
 have h6: (le m).length= (le n).length:=by omega
 obtain ⟨h7,h8⟩ :=List.append_inj h4 (by simp[h6])
 exact ⟨R1 _ _ (by simpa using h7),h8⟩
theorem Dp (s t x y:List UInt8) (hs:s.length< 18446744073709551616) (ht:t.length< 18446744073709551616) (h:wb s++x=wb t++y) :s=t∧x=y:=by
 unfold wb at h
 rw[List.append_assoc,List.append_assoc] at h
 obtain ⟨h1,h2⟩ :=yE _ _ _ _ hs ht h
 obtain ⟨h3,h4⟩ :=List.append_inj h2 h1
 exact ⟨h3,h4⟩
end Go.Sx
namespace Go.Sx
open Go.RowKit Go.Proofs
theorem qr:td Tryd.prog 3=some ⟨.int .i64,1,8,[.int .i64 0]⟩ :=by kernel_rfl
theorem R4:td Tryd.prog 4=some ⟨.bool,1,1,[.bool false]⟩ :=by kernel_rfl
theorem Ye:td Tryd.prog 5=some ⟨.int .u8,1,1,[.int .u8 0]⟩ :=by kernel_rfl
theorem r9:td Tryd.prog 9=some ⟨.string,1,16,[.string ⟨#[]⟩]⟩ :=by kernel_rfl
theorem R5:td Tryd.prog 22=some ⟨.slice 3,1,24,[.slice none 0 0]⟩ :=by kernel_rfl
theorem R6:td Tryd.prog 24=some ⟨.slice 75,1,24,[.slice none 0 0]⟩ :=by kernel_rfl
theorem R7:td Tryd.prog 29=some ⟨.array 16 5,16,16,List.replicate 16 (.int .u8 0)⟩ :=by kernel_rfl
theorem xj:td Tryd.prog 33=some ⟨.slice 41,1,24,[.slice none 0 0]⟩ :=by kernel_rfl
theorem aaK:td Tryd.prog 39=some ⟨.slice 5,1,24,[.slice none 0 0]⟩ :=by kernel_rfl
theorem xk:td Tryd.prog 41=some ⟨.struct #[Field.mk "Key" 9 0 false "" "" 0,Field.mk "Value" 9 1 false "" "" 16],2,32,[.string ⟨#[]⟩,.string ⟨#[]⟩]⟩ :=by kernel_rfl
theorem R8:td Tryd.prog 47=some ⟨.slice 9,1,24,[.slice none 0 0]⟩ :=by kernel_rfl
theorem A8:td Tryd.prog 48=some ⟨.slice 29,1,24,[.slice none 0 0]⟩ :=by kernel_rfl
theorem oc:td Tryd.prog 50=some ⟨.struct #[Field.mk "First" 3 0 false "" "" 0,Field.mk "Size" 3 1 false "" "" 8,Field.mk "Leaves" 33 2 false "" "" 16,Field.mk "Sides" 48 3 false "" "" 40],4,64,[.int .i64 0,.int .i64 0,.slice none 0 0,.slice none 0 0]⟩ :=by kernel_rfl
theorem xl:td Tryd.prog 54=some ⟨.struct #[Field.mk "First" 3 0 false "" "" 0,Field.mk "Size" 3 1 false "" "" 8,Field.mk "Leaves" 24 2 false "" "" 16,Field.mk "Sides" 48 3 false "" "" 40],4,64,[.int .i64 0,.int .i64 0,.slice none 0 0,.slice none 0 0]⟩ :=by kernel_rfl
theorem aaL:td Tryd.prog 63=some ⟨.slice 54,1,24,[.slice none 0 0]⟩ :=by kernel_rfl
theorem xm:td Tryd.prog 75=some ⟨.struct #[Field.mk "Key" 9 0 false "" "" 0,Field.mk "Value" 9 1 false "" "" 16],2,32,[.string ⟨#[]⟩,.string ⟨#[]⟩]⟩ :=by kernel_rfl
theorem sa:td Tryd.prog 102=some ⟨.struct #[Field.mk "Texts" 47 0 false "" "" 0,Field.mk "Sides" 48 1 false "" "" 24,Field.mk "Used" 3 2 false "" "" 48,Field.mk "Short" 4 3 false "" "" 56],4,64,[.slice none 0 0,.slice none 0 0,.int .i64 0,.bool false]⟩ :=by kernel_rfl
theorem Kh:td Tryd.prog 116=some ⟨.int .u64,1,8,[.int .u64 0]⟩ :=by kernel_rfl
theorem WJ:td Tryd.prog 141=some ⟨.array 32 5,32,32,List.replicate 32 (.int .u8 0)⟩ :=by kernel_rfl
theorem A9:td Tryd.prog 151=some ⟨.int .u32,1,4,[.int .u32 0]⟩ :=by kernel_rfl
theorem Ki:td Tryd.prog 152=some ⟨.array 8 151,8,32,List.replicate 8 (.int .u32 0)⟩ :=by kernel_rfl
theorem Kj:td Tryd.prog 153=some ⟨.array 64 5,64,64,List.replicate 64 (.int .u8 0)⟩ :=by kernel_rfl
theorem v8:td Tryd.prog 155=some ⟨.struct #[Field.mk "state" 152 0 false "" "passim/hash" 0,Field.mk "block" 153 8 false "" "passim/hash" 32,Field.mk "n" 116 72 false "" "passim/hash" 96],73,104,List.replicate 8 (.int .u32 0)++(List.replicate 64 (.int .u8 0)++[.int .u64 0])⟩ :=by kernel_rfl
theorem WK:td Tryd.prog 160=some ⟨.int .u64,1,8,[.int .u64 0]⟩ :=by kernel_rfl
theorem Ba:td Tryd.prog 162=some ⟨.array 64 151,64,256,List.replicate 64 (.int .u32 0)⟩ :=by kernel_rfl
theorem WL:td Tryd.prog 166=some ⟨.array 4 151,4,16,List.replicate 4 (.int .u32 0)⟩ :=by kernel_rfl
attribute [go_sem] qr R4 Ye r9 R5 R6 R7 xj aaK xk R8 A8 oc xl aaL xm sa Kh WJ A9 Ki Kj v8 WK Ba WL
def kc:List (BitVec 32) := [0x428a2f98,0x71374491,0xb5c0fbcf,0xe9b5dba5,0x3956c25b,0x59f111f1,0x923f82a4,0xab1c5ed5,0xd807aa98,0x12835b01,0x243185be,0x550c7dc3,0x72be5d74,0x80deb1fe,0x9bdc06a7,0xc19bf174,0xe49b69c1,0xefbe4786,0x0fc19dc6,0x240ca1cc,0x2de92c6f,0x4a7484aa,0x5cb0a9dc,0x76f988da,0x983e5152,0xa831c66d,0xb00327c8,0xbf597fc7,0xc6e00bf3,0xd5a79147,0x06ca6351,0x14292967,0x27b70a85,0x2e1b2138,0x4d2c6dfc,0x53380d13,0x650a7354,0x766a0abb,0x81c2c92e,0x92722c85,0xa2bfe8a1,0xa81a664b,0xc24b8b70,0xc76c51a3,0xd192e819,0xd6990624,0xf40e3585,0x106aa070,0x19a4c116,0x1e376c08,0x2748774c,0x34b0bcb5,0x391c0cb3,0x4ed8aa4a,0x5b9cca4f,0x682e6ff3,0x748f82ee,0x78a5636f,0x84c87814,0x8cc70208,0x90befffa,0xa4506ceb,0xbef9a3f7,0xc67178f2]
noncomputable def xn:Nat→C:=fun g=>if g=0∨g=2 then .kp (cl wC kc) else .top
noncomputable def aN (gl:Nat→C) (M:Nat) (pu:Nat→List C→Option C) :Cx:= ⟨Tryd.prog,M,gl,pu,fun _ _ _=>none,fun _=>false,fun _ _=>false⟩
theorem R9 (P:Program) (N:Nat) (gl:Nat→C) (pu:Nat→List C→Option C) (hp:Nat→List C→Hp→Option (C×Hp)) (km:TypeId→Value→Bool) (d:Option Nat) :nQ ⟨P,N,gl,pu,hp,fun _=>false,km⟩ d=false:=by cases d<;>rfl
theorem Sa (gl:Nat→C) (M:Nat) (pu:Nat→List C→Option C) (d:Option Nat) :nQ (aN gl M pu) d=false:=by cases d<;>rfl
theorem Kk (gl:Nat→C) (M:Nat) (pu:Nat→List C→Option C) : (aN gl M pu).P=Tryd.prog:=rfl
theorem WM (gl:Nat→C) (M:Nat) (pu:Nat→List C→Option C) : (aN gl M pu).N=M:=rfl
theorem Sb (gl:Nat→C) (M:Nat) (pu:Nat→List C→Option C) : (aN gl M pu).pu=pu:=rfl
theorem Sc (gl:Nat→C) (M:Nat) (pu:Nat→List C→Option C) : (aN gl M pu).hp=fun _ _ _=>none:=rfl
theorem Sd (gl:Nat→C) (M:Nat) (pu:Nat→List C→Option C) : (aN gl M pu).gl=gl:=rfl
theorem WN:xn 0= .kp (cl wC kc) :=rfl
theorem WO:xn 2= .kp (cl wC kc) :=rfl
theorem cJ {gl:Nat→C} {M:Nat} {pu:Nat→List C→Option C} : (aN gl M pu).P.follows .mixedOrders=true:=by
 rw[Kk];kernel_rfl
def lm (x:BitVec 32) (k:Nat) :BitVec 32:=x<<< k|||x>>> (32 - k)
def rr (x:BitVec 32) (n:Nat) :BitVec 32:=x>>>n|||x<<< (32 - n)
theorem jI (x:BitVec 32) (n m:Nat) (h:n=32 - m∧0< m∧m< 32) :lm x n=rr x m:=by
 unfold lm rr
 obtain ⟨h1,h2,h3⟩ :=h
 subst h1
 rw[BitVec.or_comm];congr 2;omega
theorem Dq: ∀g,aF 0 (xn g) =true:=fun g=>by
 unfold xn;split
 · exact aT wC 0 kc
 · rfl
theorem Dr (x:BitVec 32) :lm x 25=rr x 7:=jI x 25 7 (by omega)
theorem Ds (x:BitVec 32) :lm x 14=rr x 18:=jI x 14 18 (by omega)
theorem Dt (x:BitVec 32) :lm x 15=rr x 17:=jI x 15 17 (by omega)
theorem Du (x:BitVec 32) :lm x 13=rr x 19:=jI x 13 19 (by omega)
def bw (b:UInt8) :BitVec 32:=b.toBitVec.setWidth 32
def wa (b:List UInt8) (t:Nat) :BitVec 32:=bw (gt b (4*t)) <<< 24|||bw (gt b (4*t+1)) <<< 16|||bw (gt b (4*t+2)) <<< 8|||bw (gt b (4*t+3))
def cb (b:List UInt8) :Nat→List (BitVec 32)
 |0=> []
 |t+1=>cb b t++[if t< 16 then wa b t else
   gt (cb b t) (t - 16)+(rr (gt (cb b t) (t - 15)) 7 ^^^ rr (gt (cb b t) (t - 15)) 18 ^^^ gt (cb b t) (t - 15) >>>3)+gt (cb b t) (t - 7)+
    (rr (gt (cb b t) (t - 2)) 17 ^^^ rr (gt (cb b t) (t - 2)) 19 ^^^ gt (cb b t) (t - 2) >>>10)]
theorem dj (b:List UInt8) : ∀t,(cb b t).length=t
 |0=>rfl
 |t+1=>by simp[cb,dj b t]
def ma (l:List UInt8) :BitVec 32:=l.foldl (fun a x=>a<<< 8|||bw x) 0
theorem Dv (l:List UInt8) (x:UInt8) :ma (l++[x]) =ma l<<< 8|||bw x:=by simp[ma]
theorem Dw (b:List UInt8) (t:Nat) (h:4*t+4≤b.length) :ma ((b.drop (4*t)).take 4) =wa b t:=by
 have e: (b.drop (4*t)).take 4= [gt b (4*t),gt b (4*t+1),gt b (4*t+2),gt b (4*t+3)] :=by
  apply List.ext_getElem?
  intro i
  rw[List.getElem?_take,List.getElem?_drop]
  rcases i with _|_|_|_|i<;>simp[gt,List.getD] <;>first| (rw[List.getElem?_eq_getElem (by omega)];simp) |omega
 rw[e]
 simp only[ma,List.foldl_cons,List.foldl_nil,wa]
 have z: ∀x:BitVec 32,(0:BitVec 32) <<< 8|||x=x:=fun x=>by simp
 rw[z]
 simp only[BitVec.shiftLeft_or_distrib,←BitVec.shiftLeft_add]
theorem FY (b:List UInt8) (t:Nat) (h:t< 64) : [some (cl wC (List.replicate 64 0)),some (cl wC (cb b t++List.replicate (64 - t) 0))] = [some (cl wC (List.replicate 64 0)),some (cl wC (cb b t++ma (((b.drop (4*t)).take 4).take 0) ::List.replicate (63 - t) 0))] :=by
 have e:64 - t= (63 - t)+1:=by omega
 rw[e,List.replicate_succ];rfl
theorem Dx (b:List UInt8) (t j:Nat) (h:j< ((b.drop (4*t)).take 4).length) (h2:t< 64) : [some (cl wC (List.replicate 64 0)),some (cl wC (cb b t++(ma (((b.drop (4*t)).take 4).take j) <<< 8|||bw (gt ((b.drop (4*t)).take 4) j)) ::List.replicate (63 - t) 0))] = [some (cl wC (List.replicate 64 0)),some (cl wC (cb b t++ma (((b.drop (4*t)).take 4).take (j+1)) ::List.replicate (63 - t) 0))] :=by
 rw[dN _ _ h,Dv]
theorem qs (b:List UInt8) (t:Nat) (hb:b.length=64) (h:t< 16) : [some (cl wC (List.replicate 64 0)),some (cl wC (cb b t++ma (((b.drop (4*t)).take 4).take 4) ::List.replicate (63 - t) 0))] = [some (cl wC (List.replicate 64 0)),some (cl wC (cb b (t+1)++List.replicate (64 - (t+1)) 0))] :=by
 have e:64 - (t+1) =63 - t:=by omega
 rw[e,List.take_take,Nat.min_self,Dw b t (by omega)]
 simp only[cb,h,if_true,List.append_assoc,List.cons_append,List.nil_append]
theorem qt (b:List UInt8) (t:Nat) (h: ¬t< 16) :
 [some (cl wC (List.replicate 64 0)),some (cl wC (cb b t++(gt (cb b t) (t - 16)+(rr (gt (cb b t) (t - 15)) 7 ^^^ rr (gt (cb b t) (t - 15)) 18 ^^^ gt (cb b t) (t - 15) >>>3)+gt (cb b t) (t - 7)+
  (rr (gt (cb b t) (t - 2)) 17 ^^^ rr (gt (cb b t) (t - 2)) 19 ^^^ gt (cb b t) (t - 2) >>>10)) ::List.replicate (64 - 1 - t) 0))] = [some (cl wC (List.replicate 64 0)),some (cl wC (cb b (t+1)++List.replicate (64 - (t+1)) 0))] :=by
 have e:64 - (t+1) =64 - 1 - t:=by omega
 rw[e]
 simp only[cb,h,if_false,List.append_assoc,List.cons_append,List.nil_append]
theorem j6:kc.length=64:=id rfl
structure S8 where
 (a b c d e f g h:BitVec 32)
def rnd (k w:BitVec 32) (s:S8) :S8:=
 ⟨(s.h+(rr s.e 6 ^^^ rr s.e 11 ^^^ rr s.e 25)+(s.e &&& s.f ^^^ ~~~s.e &&& s.g)+k+w)+((rr s.a 2 ^^^ rr s.a 13 ^^^ rr s.a 22)+(s.a &&& s.b ^^^ s.a &&& s.c ^^^ s.b &&& s.c)),s.a,s.b,s.c,
   s.d+(s.h+(rr s.e 6 ^^^ rr s.e 11 ^^^ rr s.e 25)+(s.e &&& s.f ^^^ ~~~s.e &&& s.g)+k+w),s.e,s.f,s.g⟩
def ey (w:List (BitVec 32)) (s:S8) :Nat→S8
 |0=>s
 |t+1=>rnd (gt kc t) (gt w t) (ey w s t)
def S8.l (s:S8) :List (BitVec 32) := [s.a,s.b,s.c,s.d,s.e,s.f,s.g,s.h]
def S8.add (s r:S8) :S8:= ⟨s.a+r.a,s.b+r.b,s.c+r.c,s.d+r.d,s.e+r.e,s.f+r.f,s.g+r.g,s.h+r.h⟩
def comp (s:S8) (b:List UInt8) :S8:=s.add (ey (cb b 64) s 64)
def Se (s r:S8) (i:Nat) :List (BitVec 32) := [if 0< i then s.a+r.a else s.a,if 1< i then s.b+r.b else s.b,if 2< i then s.c+r.c else s.c,if 3< i then s.d+r.d else s.d,
 if 0< i then s.e+r.e else s.e,if 1< i then s.f+r.f else s.f,if 2< i then s.g+r.g else s.g,if 3< i then s.h+r.h else s.h]
theorem ln (s r:S8) (i:Nat) : (Se s r i).length=8:=id rfl
theorem LD (b o:Nat) :bK Tryd.prog 155 (.bp b o) 0=some (vp (.bp b (o+0))) :=by
 rw[Bz,v8,BB (h:=rfl)]
 show EH (td Tryd.prog 152) b (o+0) =_
 rw[Ki];rfl
theorem LF (b o:Nat) :bK Tryd.prog 155 (.bp b o) 1=some (vp (.bp b (o+8))) :=by
 rw[Bz,v8,BB (h:=rfl)]
 show EH (td Tryd.prog 153) b (o+8) =_
 rw[Kj];rfl
theorem LG (b o:Nat) :bK Tryd.prog 155 (.bp b o) 2=some (vp (.bp b (o+72))) :=by
 rw[Bz,v8,BB (h:=rfl)]
 show EH (td Tryd.prog 116) b (o+72) =_
 rw[Kh];rfl
theorem dZ (s:S8) :s.l.length=8:=id rfl
def Z8:List (BitVec 32) := [0,0,0,0,0,0,0,0]
theorem xp:Z8.length=8:=id rfl
structure Str where
 (s:S8) (blk:List UInt8) (n:Nat)
def Str.cells (F:Str) :List C:=cl wC F.s.l++(cl bC F.blk++[.val (nU F.n)])
def IV:S8:= ⟨0x6a09e667,0xbb67ae85,0x3c6ef372,0xa54ff53a,0x510e527f,0x9b05688c,0x1f83d9ab,0x5be0cd19⟩
def F0:Str:= ⟨IV,List.replicate 64 0,0⟩
def push (F:Str) (x:UInt8) :Str:= ⟨if F.n % 64=63 then comp F.s (F.blk.set (F.n % 64) x) else F.s,F.blk.set (F.n % 64) x,F.n+1⟩
def dm (F:Str) (m:List UInt8) :Str:=m.foldl push F
theorem m9 (F:Str) (m t:List UInt8) :dm F (m++t) =dm (dm F m) t:=by simp[dm]
theorem mH (m:List UInt8) : ∀F:Str,(dm F m).n=F.n+m.length:=by
 induction m with
 |nil=>intro F;rfl
 |cons x m ih=>intro F;show (dm (push F x) m).n=_;rw[ih];simp[push];omega
theorem i1 (m:List UInt8) : ∀F:Str,(dm F m).blk.length=F.blk.length:=by
 induction m with
 |nil=>intro F;rfl
 |cons x m ih=>intro F;show (dm (push F x) m).blk.length=_;rw[ih];simp[push]
theorem na: ∀ (l:List UInt8) (G:Str),G.blk.length=64→G.n % 64+l.length≤64→l≠[]→
 dm G l= ⟨if G.n % 64+l.length=64 then comp G.s (G.blk.take (G.n % 64)++l++G.blk.drop (G.n % 64+l.length)) else G.s,G.blk.take (G.n % 64)++l++G.blk.drop (G.n % 64+l.length),G.n+l.length⟩
 | [],G,_,_,h=>absurd rfl h
 | [x],G,hb,hl,_=>by
   have e:G.blk.set (G.n % 64) x=G.blk.take (G.n % 64)++[x]++G.blk.drop (G.n % 64+1) :=by
    rw[List.set_eq_take_append_cons_drop,if_pos (by omega)];simp
   show push G x=_
   unfold push
   rw[e]
   simp only[List.length_singleton]
   have: (G.n % 64=63) = (G.n % 64+1=64) :=by simp
   simp only[this]
 |x::y::l,G,hb,hl,_=>by
  simp only[List.length_cons] at hl
  have hne:G.n % 64≠63:=by omega
  show dm (push G x) (y::l) =_
  have hp:push G x= ⟨G.s,G.blk.set (G.n % 64) x,G.n+1⟩ :=by unfold push;rw[if_neg hne]
  have hm: (G.n+1) % 64=G.n % 64+1:=by omega
  rw[hp,na (y::l) _ (by simpa using hb) (by simp only[hm,List.length_cons];omega) (by simp)]
  simp only[hm,List.length_cons]
  have e1: (G.blk.set (G.n % 64) x).take (G.n % 64+1) =G.blk.take (G.n % 64)++[x] :=by
   rw[List.set_eq_take_append_cons_drop,if_pos (by omega)]
   rw[List.take_append,List.length_take,Nat.min_eq_left (by omega),List.take_of_length_le (by simp;omega)]
   simp
  have e2: (G.blk.set (G.n % 64) x).drop (G.n % 64+1+(l.length+1)) =G.blk.drop (G.n % 64+(l.length+1+1)) :=by
   rw[List.drop_set_of_lt (by omega)];congr 1;omega
  rw[e1,e2]
  have e3: (G.n % 64+1+(l.length+1) =64) = (G.n % 64+(l.length+1+1) =64) :=by rw[show G.n % 64+1+(l.length+1) =G.n % 64+(l.length+1+1) by omega]
  simp only[e3,List.append_assoc,List.cons_append,List.nil_append]
  have e4:G.n+1+(l.length+1) =G.n+(l.length+1+1) :=by omega
  rw[e4]
def gi (n:Nat) :Nat:= (119 - n % 64) % 64
def mb (n:Nat) (k:Nat) :List UInt8:= (List.range k).map fun i=>UInt8.ofNat (n>>> (56 - 8*i))
def lp (n:Nat) :List UInt8:=128::List.replicate (gi n) 0++mb (8*n) 8
def Sf (s:S8) (i:Nat) :UInt8:= ⟨(gt s.l (i / 4) >>> (24 - 8*(i % 4))).setWidth 8⟩
def od (s:S8) (n:Nat) :List UInt8:= (List.range n).map (Sf s)
theorem gY (s:S8) (n:Nat) : (od s n).length=n:=by simp[od]
def mc (F:Str) :List UInt8:=od (dm F (lp F.n)).s 32
def eQ (m:List UInt8) :List UInt8:=mc (dm F0 m)
theorem tE (m:List UInt8) : (eQ m).length=32:=gY _ _
theorem t8 (n k:Nat) :mb n (k+1) =mb n k++[UInt8.ofNat (n>>> (56 - 8*k))] :=by simp[mb,List.range_succ]
theorem jJ (n k:Nat) : (mb n k).length=k:=by simp[mb]
theorem FZ (s:S8) (k:Nat) :od s (k+1) =od s k++[Sf s k] :=by simp[od,List.range_succ]
theorem tF (F:Str) : (⟨F.s,F.blk,F.n⟩ :Str) =F:=rfl
theorem sb:F0.blk.length=64:=id rfl
theorem xq:F0.n=0:=id rfl
theorem xu (F G:Str) (t L:List UInt8) (c:Nat) (hG:dm F (t.take c) =G) (hL:t.drop c=L) (hb:G.blk.length=64) (hne:L≠[]) :
 dm F (t.take (c+min L.length (64 - G.n % 64))) = ⟨if G.n % 64+min L.length (64 - G.n % 64) =64 then comp G.s (G.blk.take (G.n % 64)++L.take (64 - G.n % 64)++G.blk.drop (G.n % 64+(L.take (64 - G.n % 64)).length)) else G.s,
  G.blk.take (G.n % 64)++L.take (64 - G.n % 64)++G.blk.drop (G.n % 64+(L.take (64 - G.n % 64)).length),G.n+min L.length (64 - G.n % 64)⟩ :=by
 have hlen: (L.take (64 - G.n % 64)).length=min L.length (64 - G.n % 64) :=by rw[List.length_take,Nat.min_comm]
 have e:dm F (t.take (c+min L.length (64 - G.n % 64))) =dm G (L.take (64 - G.n % 64)) :=by
  rw[List.take_add,m9,hG,hL]
  congr 1
  rw[List.take_eq_take_iff];omega
 rw[e,na _ G hb (by rw[hlen];omega) (fun h=>by
  have h2:=congrArg List.length h
  have h3:0< L.length:=List.length_pos_iff.2 hne
  rw[hlen] at h2;simp only[List.length_nil] at h2;omega)]
 simp only[hlen]
theorem xw (S:S8) (i:Nat) (h:i< 32) :od S i++Sf S i::List.replicate (32 - 1 - i) 0=od S (i+1)++List.replicate (32 - (i+1)) 0:=by
 rw[FZ,show 32 - (i+1) =32 - 1 - i by omega];simp
theorem nM {α:Type} (l:List α) (k:Nat) : (l.drop k).take (l.length - k) =l.drop k:=List.take_of_length_le (by simp)
theorem fD (op:BinOp) (a b:List UInt8) (ha:a.length=16) (hb:b.length=16) :aV Tryd.prog op 29 (.agg (cl bC a)) (.agg (cl bC b)) =oz op (decide (a=b)) :=NY Tryd.prog R7 Ye (by kernel_rfl) op a b ha hb
theorem Dy (a:List (BitVec 32)) (l:List UInt8) (v:Value) :cH (some (cl wC a++(cl bC l++[C.val v]))) =some (cl wC a++(cl bC l++[C.val v])) :=qZ wC a _ (qZ bC l _ rfl)
attribute [go_sem] Dy
attribute [go_sem] Kk WM Sb Sc Sd Sa R9 LD LF LG
end Go.Sx
namespace Go.Sx
open Go.RowKit Go.Proofs
def keyOf (key:List UInt8) :List UInt8:=if key.length>64 then eQ key else key
def cK (tag:Int) (parts:List (List UInt8)) :List UInt8:=UInt8.ofNat (tag % 256).toNat::parts.flatMap wb
theorem qS (tag:Int) (parts:List (List UInt8)) (i:Nat) (h:i< parts.length) :cK tag (parts.take (i+1)) =cK tag (parts.take i)++wb (gt parts i) :=by
 rw[dN _ _ h];simp[cK]
theorem Sg (tag:Int) (parts:List (List UInt8)) (i:Nat) : (cK tag (parts.take i)).length≤(cK tag parts).length:=by
 have h:=List.take_append_drop i parts
 have e:cK tag parts=cK tag (parts.take i)++(parts.drop i).flatMap wb:=by
  have e2:parts.flatMap wb= (parts.take i++parts.drop i).flatMap wb:=by rw[h]
  unfold cK
  rw[e2,List.flatMap_append];rfl
 rw[e];simp
theorem F4 (M:List UInt8) (a:Nat) (h:64*a+64≤M.length) : (dm F0 (M.take (64*(a+1)))).s=comp (dm F0 (M.take (64*a))).s ((M.drop (64*a)).take 64) :=by
 have hl: ((M.drop (64*a)).take 64).length=64:=by simp;omega
 have hn:=mH (M.take (64*a)) F0
 rw[xq,List.length_take,Nat.min_eq_left (by omega)] at hn
 have hb:=i1 (M.take (64*a)) F0
 rw[sb] at hb
 rw[show 64*(a+1) =64*a+64 by omega,List.take_add,m9,na _ _ hb (by rw[hl,hn];omega) (fun e=>by rw[e] at hl;cases hl)]
 have hm: (dm F0 (M.take (64*a))).n % 64=0:=by rw[hn];omega
 simp only[hl,hm,Nat.zero_add,if_true,List.take_zero,List.nil_append]
 have hd:List.drop 64 (dm F0 (M.take (64*a))).blk= [] :=List.drop_of_length_le (by rw[hb];exact Nat.le_refl _)
 rw[hd,List.append_nil]
theorem Sh (b:List UInt8) :eQ b=od (dm F0 (b++lp b.length)).s 32:=by
 unfold eQ mc
 rw[mH,xq,Nat.zero_add,m9]
theorem y8 (n:Nat) : (lp n).length=9+gi n:=by simp[lp,jJ];omega
theorem F5 (b:List UInt8) : ∃Q,(b++lp b.length).length=64*Q:=by
 refine ⟨(b++lp b.length).length / 64,?_⟩
 have: (b++lp b.length).length % 64=0:=by
  rw[List.length_append,y8];unfold gi;omega
 omega
theorem Dz (x:BitVec 32) :x ^^^ BitVec.ofNat 32 4294967295= ~~~x:=by
 have:BitVec.ofNat 32 4294967295=BitVec.allOnes 32:=by decide
 rw[this,BitVec.xor_allOnes]
def few (l:List (List UInt8)) :Bool:=decide (l.length≤12) && l.all fun s=>decide (s.length≤400)
theorem lq (F:Str) : (mc F).length=32:=gY _ _
theorem qu (tag:Int) (parts:List (List UInt8)) (h: (cK tag parts).length< 1099511627776) (i:Nat) (hi:i< parts.length) :
 (cK tag (parts.take i)).length+(wb (gt parts i)).length< 1099511627776∧(gt parts i).length< 1099511627776:=by
 have h1:=Sg tag parts (i+1)
 rw[qS tag parts i hi,List.length_append] at h1
 have h2: (gt parts i).length≤(wb (gt parts i)).length:=by simp[wb]
 omega
theorem ua (tag:Int) (parts:List (List UInt8)) (h: (cK tag parts).length< 1099511627776) :parts.length< 1099511627776:=by
 have: ∀l:List (List UInt8),l.length≤(l.flatMap wb).length:=by
  intro l
  induction l with
  |nil=>simp
  |cons a l ih=>have:=xi a;simp at ih ⊢;omega
 have:=this parts
 unfold cK at h
 simp only[List.length_cons] at h
 omega
end Go.Sx
namespace Go.Sx
open Go.RowKit Go.Proofs
set_option maxRecDepth 100000
set_option maxHeartbeats 8000000
theorem tG {p:Prop} (e:p:=by intro KZ hZ;simp -implicitDefEqProofs (disch:=first|omega| (simp only[go_sem,lA,lD,lT] <;>omega) |decide) only[go_sem,↓reduceIte,Nat.reduceEqDiff,reduceCtorEq,Nat.reduceLT,Nat.reduceBEq,Nat.reduceAdd,hy];exact hZ) :p:=e
theorem LJ {p:Prop} (e:p:=by simp -implicitDefEqProofs (disch:=first|omega| (simp only[go_sem,lA,lD,lT] <;>omega) |decide) only[go_sem,↓reduceIte,Nat.reduceEqDiff,reduceCtorEq];all_goals (rfl)) :p:=e
theorem WP {gl:Nat→C} {M:Nat} {pu:Nat→List C→Option C} (hcx:CxOK (aN gl M pu)) (x:BitVec 32) (k:Int) :FC Tryd.prog gl 117 [.val (cA x),.val (.int .i64 k)] [] (.val (cA (lm x ((k % 18446744073709551616).toNat % 32)))) [] :=by
 replace hcx:=hcx.reN (M:=17)
 refine bY (cx:=aN gl 17 pu) (rs:= [.tmp 4]) rfl Tryd.func117 rfl rfl rfl (by simp only[List.length_cons,List.length_nil];decide) (by simp only[go_sem]) ?_
 simp only[cM,go_sem]
 have hy:=True.intro
 refine aa hcx [] _ [] rfl rfl rfl ?_ tG
 refine aa hcx [1000008] _ [] rfl rfl rfl ?_ tG
 refine aa hcx [1000016] _ [] rfl rfl rfl ?_ tG
 exact Tr.ret LJ
theorem y9 {p:Prop} (e:p:=by intro KZ hZ;simp -implicitDefEqProofs (disch:=first|omega| (simp only[go_sem,lA,lD,lT] <;>omega) |decide) only[go_sem,↓reduceIte,Nat.reduceEqDiff,reduceCtorEq,Nat.reduceLT,Nat.reduceBEq,Nat.reduceAdd,h117,hy];exact hZ) :p:=e
theorem LK {p:Prop} (e:p:=by simp -implicitDefEqProofs (disch:=first|omega| (simp only[go_sem,lA,lD,lT] <;>omega) |decide) only[go_sem,↓reduceIte,Nat.reduceEqDiff,reduceCtorEq];all_goals (rw[jI x _ i (by omega),jI x _ j (by omega),jI x _ k (by omega)])) :p:=e
theorem WQ {gl:Nat→C} {M:Nat} {pu:Nat→List C→Option C} (hcx:CxOK (aN gl M pu)) (h117: ∀x k,pu 117 [.val (cA x),.val (.int .i64 k)] =some (.val (cA (lm x ((k % 18446744073709551616).toNat % 32))))) (x:BitVec 32) (i j k:Nat) (hi:0< i∧i< 32) (hj:0< j∧j< 32) (hk:0< k∧k< 32) :FC Tryd.prog gl 116 [.val (cA x),.val (nI i),.val (nI j),.val (nI k)] [] (.val (cA (rr x i ^^^ rr x j ^^^ rr x k))) [] :=by
 replace hcx:=hcx.reN (M:=23)
 refine bY (cx:=aN gl 23 pu) (rs:= [.tmp 8]) rfl Tryd.func116 rfl rfl rfl (by simp only[List.length_cons,List.length_nil];decide) (by simp only[go_sem]) ?_
 simp only[cM,go_sem]
 have hy:=True.intro
 refine aa hcx [] _ [] rfl rfl rfl ?_ y9
 refine aa hcx [1000022] _ [] rfl rfl rfl ?_ y9
 exact Tr.ret LK
theorem LL {p:Prop} (e:p:=by intro KZ hZ;simp -implicitDefEqProofs (disch:=first|omega| (simp only[go_sem,lA,lD,lT] <;>omega) |decide) only[go_sem,↓reduceIte,Nat.reduceEqDiff,reduceCtorEq,Nat.reduceLT,Nat.reduceBEq,Nat.reduceAdd,hy];exact hZ) :p:=e
theorem LM {p:Prop} (e:p:=by intro KZ hZ;simp -implicitDefEqProofs (disch:=first|omega| (simp only[go_sem,lA,lD,lT] <;>omega) |decide) only[go_sem,↓reduceIte,Nat.reduceEqDiff,reduceCtorEq,Nat.reduceLT,Nat.reduceBEq,Nat.reduceAdd,hy];refine And.intro ?_ hZ;exact rfl) :p:=e
theorem LN {p:Prop} (e:p:=by simp -implicitDefEqProofs (disch:=first|omega| (simp only[go_sem,lA,lD,lT] <;>omega) |decide) only[go_sem,↓reduceIte,Nat.reduceEqDiff,reduceCtorEq];all_goals (rfl)) :p:=e
theorem WR {gl:Nat→C} {M:Nat} {pu:Nat→List C→Option C} (hcx:CxOK (aN gl M pu)) (x:BitVec 32) (n:Nat) (hn:n< 32) :FC Tryd.prog gl 110 [.val (cA x),.val (nI n)] [] (.val (cA (rr x n))) [] :=by
 replace hcx:=hcx.reN (M:=13)
 refine bY (cx:=aN gl 13 pu) (rs:= [.tmp 4]) rfl Tryd.func110 rfl rfl rfl (by simp only[List.length_cons,List.length_nil];decide) (by simp only[go_sem]) ?_
 simp only[cM,go_sem]
 have hy:=True.intro
 refine aa hcx [] _ [] rfl rfl rfl ?_ LL
 refine bG hcx cJ [1000012] _ [] rfl rfl rfl rfl ?_ LM
 exact Tr.ret LN
theorem eG {p:Prop} (e:p:=by intro KZ hZ;simp -implicitDefEqProofs (disch:=first|omega| (simp only[go_sem,lA,lD,lT,dj,hb] <;>omega) |decide) only[go_sem,↓reduceIte,Nat.reduceEqDiff,reduceCtorEq,Nat.reduceLT,Nat.reduceBEq,Nat.reduceAdd,Nat.reduceSub,Nat.reduceMul,Nat.reduceMod,Int.reduceMod,Int.reduceToNat,Int.reduceNeg,h117,jH,lj,tC,jG,dj,Dr,Ds,Dt,Du,hy];exact hZ) :p:=e
theorem za {p:Prop} (e:p:=by intro KZ hZ;simp -implicitDefEqProofs (disch:=first|omega| (simp only[go_sem,lA,lD,lT,dj,hb] <;>omega) |decide) only[go_sem,↓reduceIte,Nat.reduceEqDiff,reduceCtorEq,Nat.reduceLT,Nat.reduceBEq,Nat.reduceAdd,Nat.reduceSub,Nat.reduceMul,Nat.reduceMod,Int.reduceMod,Int.reduceToNat,Int.reduceNeg,h117,jH,lj,tC,jG,dj,Dr,Ds,Dt,Du,hy];refine And.intro ?_ hZ;exact rfl) :p:=e
theorem LO {p:Prop} (e:p:=by simp -implicitDefEqProofs (disch:=first|omega| (simp only[go_sem,lA,lD,lT,dj,hb] <;>omega) |decide) only[go_sem,↓reduceIte,Nat.reduceEqDiff,reduceCtorEq];all_goals (simp[List.take_of_length_le,dj])) :p:=e
theorem WS {gl:Nat→C} {M:Nat} {pu:Nat→List C→Option C} (hcx:CxOK (aN gl M pu)) (h117: ∀x k,pu 117 [.val (cA x),.val (.int .i64 k)] =some (.val (cA (lm x ((k % 18446744073709551616).toNat % 32))))) (b:List UInt8) (hb:b.length=64) :FC Tryd.prog gl 115 [sl bC .no b] [] (.agg (cl wC (cb b 64))) [] :=by
 replace hcx:=hcx.reN (M:=79)
 refine bY (cx:=aN gl 79 pu) (rs:= [.cell 2 162]) rfl Tryd.func115 rfl rfl rfl (by simp only[List.length_cons,List.length_nil];decide) (by simp only[go_sem]) ?_
 simp only[cM,go_sem]
 have hy:=True.intro
 refine aa hcx [] _ [none] rfl rfl rfl ?_ eG
 refine aa hcx [] _ [none] rfl rfl rfl ?_ eG
 refine ae fun K1 hK1=> ?_
 refine aa hcx [] _ [] rfl rfl rfl ?_ eG
 refine Tr.k [0,2,3,11] ?_
 refine Tr.blk ?_
 refine cj (α:=Nat) (fun a=> [(0,?v0_1),(2,?v2_1),(3,?v3_1),(11,.val (nI a))]) (fun a=> [some (cl wC (List.replicate 64 0)),some (cl wC (cb b a++List.replicate (64 - a) 0))]) (fun a=>a≤64) (fun a=>64 - a) (0) ?_ ?le_1 ?hh_1 ?bd_1
 case hh_1=>exact rfl
 case le_1=>exact LT
 · omega
 rintro t ht
 refine aa hcx [] _ [] rfl rfl rfl ?_ eG
 refine ae fun K2 hK2=> ?_
 refine bR rfl (fun hc12=> ?_) (fun hc12=> ?_)
 ·
  refine Tr.skip ?_
  refine hK2 _ ?_
  refine ae fun K3 hK3=> ?_
  refine Tr.blk ?_
  refine aa hcx [1000013] _ [] rfl rfl rfl ?_ eG
  refine ae fun K4 hK4=> ?_
  refine aa hcx [] _ [] rfl rfl rfl ?_ eG
  refine bR rfl (fun hc15=> ?_) (fun hc15=> ?_)
  ·
   refine ae fun K5 hK5=> ?_
   refine aa hcx [] _ [] rfl rfl rfl ?_ eG
   refine Tr.k [0,2,3,4,11,22,23,24] ?_
   refine Tr.blk ?_
   refine cj (α:=Nat) (fun a=> [(0,?v0_2),(2,?v2_2),(3,?v3_2),(4,?v4_2),(11,?v11_2),(22,?v22_2),(23,?v23_2),(24,.val (nI a))]) (fun a=> [some (cl wC (List.replicate 64 0)),some (cl wC (cb b t++ma (((b.drop (4*t)).take 4).take a) ::List.replicate (63 - t) 0))]) (fun a=>a≤4) (fun a=>4 - a) (0) ?_ ?le_2 ?hh_2 ?bd_2
   case hh_2=>exact FY b t (by omega)
   case le_2=>exact LT
   · omega
   rintro j hj
   have hl4: (List.take 4 (List.drop (4*t) b)).length=4:=by simp;omega
   refine aa hcx [] _ [] rfl rfl rfl ?_ eG
   refine ae fun K6 hK6=> ?_
   refine bR rfl (fun hc25=> ?_) (fun hc25=> ?_)
   ·
    refine Tr.skip ?_
    refine hK6 _ ?_
    refine ae fun K7 hK7=> ?_
    refine Tr.blk ?_
    refine aa hcx [1000027] _ [] rfl rfl rfl ?_ eG
    refine bF hcx [] _ [] rfl rfl rfl ?_ eG
    refine hK7 _ ?_
    refine bF hcx [] _ [] rfl rfl rfl ?_ eG
    exact ⟨j+1,⟨by omega,O1⟩,LT,Dx b t j (by omega) (by omega)⟩
   obtain rfl:j=4:=by omega
   refine Tr.exit ?_
   refine hK5 _ ?_
   refine Tr.exit ?_
   refine hK3 _ ?_
   refine bF hcx [] _ [] rfl rfl rfl ?_ eG
   exact ⟨t+1,⟨by omega,O1⟩,LT,by first|exact qs b t hb (by omega) |exact qt b t (by omega)⟩
  refine Tr.skip ?_
  refine hK4 _ ?_
  refine bG hcx cJ [1000041,1000045] _ [] rfl rfl rfl rfl ?_ za
  refine Tr.k [0,2,3,4,7,8,11] ?_
  refine aa hcx [1000053] _ [] rfl rfl rfl ?_ eG
  refine aa hcx [1000061] _ [] rfl rfl rfl ?_ eG
  refine Tr.k [0,2,3,4,9,10,11] ?_
  refine gJ hcx cJ [] _ [] rfl rfl rfl rfl ?_ za
  refine hK3 _ ?_
  refine bF hcx [] _ [] rfl rfl rfl ?_ eG
  exact ⟨t+1,⟨by omega,O1⟩,LT,by first|exact qs b t hb (by omega) |exact qt b t (by omega)⟩
 obtain rfl:t=64:=by omega
 refine Tr.exit ?_
 refine hK1 _ ?_
 refine aa hcx [] _ [] rfl rfl rfl ?_ eG
 exact Tr.ret LO
theorem fu {p:Prop} (e:p:=by intro KZ hZ;simp -implicitDefEqProofs (disch:=first|omega| (simp only[go_sem,lA,lD,lT,dj,hb,j6,ln,S8.l] <;>omega) |decide) only[go_sem,↓reduceIte,Nat.reduceEqDiff,reduceCtorEq,Nat.reduceLT,Nat.reduceBEq,Nat.reduceAdd,hg1,h116,h115,dj,S8.l,j6,ln,hy];exact hZ) :p:=e
theorem mI {p:Prop} (e:p:=by intro KZ hZ;simp -implicitDefEqProofs (disch:=first|omega| (simp only[go_sem,lA,lD,lT,dj,hb,j6,ln,S8.l] <;>omega) |decide) only[go_sem,↓reduceIte,Nat.reduceEqDiff,reduceCtorEq,Nat.reduceLT,Nat.reduceBEq,Nat.reduceAdd,hg1,h116,h115,dj,S8.l,j6,ln,hy];refine And.intro ?_ hZ;exact rfl) :p:=e
theorem LS {p:Prop} (e:p:=by simp -implicitDefEqProofs (disch:=first|omega| (simp only[go_sem,lA,lD,lT,dj,hb,j6,ln,S8.l] <;>omega) |decide) only[go_sem,↓reduceIte,Nat.reduceEqDiff,reduceCtorEq];all_goals (subst hr;rfl)) :p:=e
theorem WT {gl:Nat→C} {M:Nat} {pu:Nat→List C→Option C} (hcx:CxOK (aN gl M pu)) (hg1:gl 2= .kp (cl wC kc)) (h116: ∀x i j k,0< i∧i< 32→0< j∧j< 32→0< k∧k< 32→pu 116 [.val (cA x),.val (nI i),.val (nI j),.val (nI k)] =some (.val (cA (rr x i ^^^ rr x j ^^^ rr x k)))) (h115: ∀b:List UInt8,b.length=64→pu 115 [sl bC .no b] =some (.agg (cl wC (cb b 64)))) (s:S8) (b:List UInt8) (hb:b.length=64) :FC Tryd.prog gl 113 [.agg (cl wC s.l),sl bC .no b] [] (.agg (cl wC (comp s b).l)) [] :=by
 replace hcx:=hcx.reN (M:=116)
 refine bY (cx:=aN gl 116 pu) (rs:= [.cell 4 152]) rfl Tryd.func113 rfl rfl rfl (by simp only[List.length_cons,List.length_nil];decide) (by simp only[go_sem]) ?_
 simp only[cM,go_sem]
 have hy:=True.intro
 refine aa hcx [] _ [none,none] rfl rfl rfl ?_ fu
 refine aa hcx [] _ [none] rfl rfl rfl ?_ fu
 refine bG hcx cJ [] _ [none,none] rfl rfl rfl rfl ?_ mI
 refine ae fun K1 hK1=> ?_
 refine aa hcx [] _ [] rfl rfl rfl ?_ fu
 refine Tr.k [2,4,5,6,7,21,22] ?_
 refine Tr.blk ?_
 refine cj (α:=Nat) (fun a=> [(2,?v2_1),(4,?v4_1),(5,?v5_1),(6,?v6_1),(7,?v7_1),(21,?v21_1),(22,.val (nI a))]) (fun a=> [some (cl wC s.l),some (cl wC (List.replicate 8 0)),some (cl wC (cb b 64)),some (cl wC [(ey (cb b 64) s a).a,(ey (cb b 64) s a).b,(ey (cb b 64) s a).c,(ey (cb b 64) s a).d]),some (cl wC [(ey (cb b 64) s a).e,(ey (cb b 64) s a).f,(ey (cb b 64) s a).g,(ey (cb b 64) s a).h])]) (fun a=>a≤64) (fun a=>64 - a) (0) ?_ ?le_1 ?hh_1 ?bd_1
 case hh_1=>exact rfl
 case le_1=>exact LT
 · omega
 rintro t ht
 generalize hr:ey (cb b 64) s t=r
 refine aa hcx [] _ [] rfl rfl rfl ?_ fu
 refine ae fun K2 hK2=> ?_
 refine bR rfl (fun hc23=> ?_) (fun hc23=> ?_)
 ·
  refine Tr.skip ?_
  refine hK2 _ ?_
  refine ae fun K3 hK3=> ?_
  refine Tr.blk ?_
  refine aa hcx [1000024,1000025] _ [] rfl rfl rfl ?_ fu
  refine Tr.k [2,4,5,6,7,8,9,21,22] ?_
  refine bG hcx cJ [1000050] _ [] rfl rfl rfl rfl ?_ mI
  refine Tr.k [2,4,5,6,7,10,21,22] ?_
  refine bG hcx cJ [1000071] _ [] rfl rfl rfl rfl ?_ mI
  refine Tr.k [2,4,5,6,7,10,11,21,22] ?_
  refine aa hcx [] _ [] rfl rfl rfl ?_ fu
  refine Tr.k [2,4,5,6,7,10,11,21,22] ?_
  refine bF hcx [] _ [] rfl rfl rfl ?_ fu
  refine hK3 _ ?_
  refine bF hcx [] _ [] rfl rfl rfl ?_ fu
  exact ⟨t+1,⟨by omega,O1⟩,LT,by simp only[ey,hr];rfl⟩
 obtain rfl:t=64:=by omega
 refine Tr.exit ?_
 refine hK1 _ ?_
 refine ae fun K4 hK4=> ?_
 refine aa hcx [] _ [] rfl rfl rfl ?_ fu
 refine Tr.k [2,4,6,7,94] ?_
 refine Tr.blk ?_
 refine cj (α:=Nat) (fun a=> [(2,?v2_2),(4,?v4_2),(6,?v6_2),(7,?v7_2),(94,.val (nI a))]) (fun a=> [some (cl wC (Se s r a)),some (cl wC (List.replicate 8 0)),some (cl wC (cb b 64)),some (cl wC [r.a,r.b,r.c,r.d]),some (cl wC [r.e,r.f,r.g,r.h])]) (fun a=>a≤4) (fun a=>4 - a) (0) ?_ ?le_2 ?hh_2 ?bd_2
 case hh_2=>exact rfl
 case le_2=>exact LT
 · omega
 rintro i hi
 refine aa hcx [] _ [] rfl rfl rfl ?_ fu
 refine ae fun K5 hK5=> ?_
 refine bR rfl (fun hc95=> ?_) (fun hc95=> ?_)
 ·
  refine Tr.skip ?_
  refine hK5 _ ?_
  refine ae fun K6 hK6=> ?_
  refine Tr.blk ?_
  refine aa hcx [1000096] _ [] rfl rfl rfl ?_ fu
  refine bG hcx cJ [] _ [] rfl rfl rfl rfl ?_ mI
  refine gJ hcx cJ [] _ [] rfl rfl rfl rfl ?_ mI
  refine hK6 _ ?_
  refine Tr.k [2,4,6,7,94] ?_
  refine bF hcx [] _ [] rfl rfl rfl ?_ fu
  exact ⟨i+1,⟨by omega,O1⟩,LT,by rcases (show i=0∨i=1∨i=2∨i=3 by omega) with rfl|rfl|rfl|rfl<;>rfl⟩
 obtain rfl:i=4:=by omega
 refine Tr.exit ?_
 refine hK4 _ ?_
 refine aa hcx [] _ [] rfl rfl rfl ?_ fu
 exact Tr.ret LS
end Go.Sx
namespace Go.Sx
open Go.RowKit Go.Proofs
set_option maxRecDepth 100000
set_option maxHeartbeats 8000000
theorem zb {p:Prop} (e:p:=by intro KZ hZ;simp -implicitDefEqProofs (disch:=first|omega| (simp only[go_sem,lA,lD,lT] <;>omega) |decide) only[go_sem,↓reduceIte,Nat.reduceEqDiff,reduceCtorEq,Nat.reduceLT,Nat.reduceBEq,Nat.reduceAdd,hy];exact hZ) :p:=e
theorem LU {p:Prop} (e:p:=by simp -implicitDefEqProofs (disch:=first|omega| (simp only[go_sem,lA,lD,lT] <;>omega) |decide) only[go_sem,↓reduceIte,Nat.reduceEqDiff,reduceCtorEq];all_goals (rfl)) :p:=e
theorem WU {gl:Nat→C} {M:Nat} {pu:Nat→List C→Option C} (hcx:CxOK (aN gl M pu)) :FC Tryd.prog gl 103 ([] :List C) [] (.agg F0.cells) [] :=by
 replace hcx:=hcx.reN (M:=3)
 refine bY (cx:=aN gl 3 pu) (rs:= [.cell 0 155]) rfl Tryd.func103 rfl rfl rfl (by simp only[List.length_cons,List.length_nil];decide) (by simp only[Str.cells,aL,bn,bq,bz,aS,aT,ax,aC,aM,Bool.and_self,Bool.and_true]) ?_
 simp only[cM,go_sem]
 have hy:=True.intro
 refine aa hcx [] _ [none] rfl rfl rfl ?_ zb
 refine aa hcx [] _ [] rfl rfl rfl ?_ zb
 exact Tr.ret LU
theorem i8 {p:Prop} (e:p:=by intro KZ hZ;simp -implicitDefEqProofs (disch:=first|omega| (simp only[go_sem,lA,lD,lT,dZ,xp] <;>omega) |decide) only[go_sem,↓reduceIte,Nat.reduceEqDiff,reduceCtorEq,Nat.reduceLT,Nat.reduceBEq,Nat.reduceAdd,Str.cells,h113,hno,dZ,nM,hy];exact hZ) :p:=e
theorem LV {p:Prop} (e:p:=by intro KZ hZ;simp -implicitDefEqProofs (disch:=first|omega| (simp only[go_sem,lA,lD,lT,dZ,xp] <;>omega) |decide) only[go_sem,↓reduceIte,Nat.reduceEqDiff,reduceCtorEq,Nat.reduceLT,Nat.reduceBEq,Nat.reduceAdd,Str.cells,h113,hno,dZ,nM,hy];refine And.intro ?_ hZ;exact rfl) :p:=e
theorem LW {p:Prop} (e:p:=by simp -implicitDefEqProofs (disch:=first|omega| (simp only[go_sem,lA,lD,lT,dZ,xp] <;>omega) |decide) only[go_sem,↓reduceIte,Nat.reduceEqDiff,reduceCtorEq];all_goals (rw[hGe];rfl)) :p:=e
theorem WV {gl:Nat→C} {M:Nat} {pu:Nat→List C→Option C} (hcx:CxOK (aN gl M pu)) (h113: ∀ (s:S8) (b:List UInt8),b.length=64→pu 113 [.agg (cl wC s.l),sl bC .no b] =some (.agg (cl wC (comp s b).l))) (hno: ∀ (g:Nat) (xs:List C),eu xs=true→pu g xs=none) (F:Str) (t:List UInt8) (hb:F.blk.length=64) (hn:F.n+t.length< 1152921504606846976) :FC Tryd.prog gl 104 [.agg F.cells,.val (str t)] [] (.agg (dm F t).cells) [] :=by
 replace hcx:=hcx.reN (M:=38)
 refine bY (cx:=aN gl 38 pu) (rs:= [.cell 4 155]) rfl Tryd.func104 rfl rfl rfl (by simp only[List.length_cons,List.length_nil];decide) (by simp only[Str.cells,aL,bn,bq,bz,aS,aT,ax,aC,aM,Bool.and_self,Bool.and_true]) ?_
 simp only[cM,go_sem]
 have hy:=True.intro
 refine aa hcx [] _ [none,none] rfl rfl rfl ?_ i8
 refine Tr.k [1,2,4] ?_
 refine ae fun K1 hK1=> ?_
 refine Tr.blk ?_
 refine cj (α:=Nat) (fun a=> [(1,.val (str (t.drop a))),(2,?v2_1),(4,?v4_1)]) (fun a=> [some (dm F (t.take a)).cells,some (cl wC Z8++(cl bC (List.replicate 64 0)++[.val (nU 0)]))]) (fun a=>a≤t.length) (fun a=>t.length - a) (0) ?_ ?le_1 ?hh_1 ?bd_1
 case hh_1=>exact rfl
 case le_1=>exact LT
 · omega
 rintro c hc
 have hGn:=mH (t.take c) F
 have hGb:=i1 (t.take c) F
 rw[hb] at hGb
 rw[List.length_take,Nat.min_eq_left hc] at hGn
 have hdl: (t.drop c).length=t.length - c:=List.length_drop
 generalize hG:dm F (t.take c) =G at*
 generalize hL:t.drop c=L at*
 refine ae fun K2 hK2=> ?_
 refine aa hcx [] _ [] rfl rfl rfl ?_ i8
 refine bR rfl (fun hc8=> ?_) (fun hc8=> ?_)
 ·
  have hlp:0< L.length:=List.length_pos_iff.2 hc8
  refine Tr.skip ?_
  refine hK2 _ ?_
  refine Tr.blk ?_
  refine aa hcx [1000012] _ [] rfl rfl rfl ?_ i8
  refine aa hcx [1000017] _ [] rfl rfl rfl ?_ i8
  refine aa hcx [1000020] _ [] rfl rfl rfl ?_ i8
  refine aa hcx [] _ [] rfl rfl rfl ?_ i8
  refine Tr.k [1,2,4,5,6] ?_
  refine aa hcx [] _ [] rfl rfl rfl ?_ i8
  refine bR rfl (fun hc30=> ?_) (fun hc30=> ?_)
  ·
   refine gJ hcx cJ [] _ [] rfl rfl rfl rfl ?_ LV
   refine ⟨c+min L.length (64 - G.n % 64),⟨by omega,O1⟩,?_,by dsimp only;rw[xu F G t L c hG hL hGb hc8];first| (rw[if_pos hc30] <;>rfl) | (rw[if_neg hc30] <;>rfl)⟩
   (simp only[bD,aO,↓bB,↓reduceIte,Nat.reduceEqDiff,aD,aP,aE,aQ,aR,and_true,true_and];all_goals (repeat' first|exact CLe.refl _|exact True.intro| (refine bM ?_;first|rfl| (simp only[List.take_zero];done)) |exact cG (by omega) |exact b8 (by omega) |exact ct (by omega) |exact cu (by omega) |with_reducible apply And.intro))
   all_goals (rw[←hL,List.drop_drop];exact CLe.refl _)
  refine Tr.skip ?_
  refine ⟨c+min L.length (64 - G.n % 64),⟨by omega,O1⟩,?_,by dsimp only;rw[xu F G t L c hG hL hGb hc8];first| (rw[if_pos hc30] <;>rfl) | (rw[if_neg hc30] <;>rfl)⟩
  (simp only[bD,aO,↓bB,↓reduceIte,Nat.reduceEqDiff,aD,aP,aE,aQ,aR,and_true,true_and];all_goals (repeat' first|exact CLe.refl _|exact True.intro| (refine bM ?_;first|rfl| (simp only[List.take_zero];done)) |exact cG (by omega) |exact b8 (by omega) |exact ct (by omega) |exact cu (by omega) |with_reducible apply And.intro))
  all_goals (rw[←hL,List.drop_drop];exact CLe.refl _)
 have hL0:L= [] :=Classical.not_not.1 hc8
 have hc0:c=t.length:=by rw[hL0] at hdl;simp only[List.length_nil] at hdl;omega
 have hGe:dm F t=G:=by rw[←hG,hc0,List.take_length]
 refine Tr.exit ?_
 refine hK1 _ ?_
 refine aa hcx [] _ [] rfl rfl rfl ?_ i8
 exact Tr.ret LW
theorem ec {p:Prop} (e:p:=by intro KZ hZ;simp -implicitDefEqProofs (disch:=first|omega| (simp only[go_sem,lA,lD,lT,dZ,jJ,gY,i1,hb] <;>omega) |decide) only[go_sem,↓reduceIte,Nat.reduceEqDiff,reduceCtorEq,Nat.reduceLT,Nat.reduceBEq,Nat.reduceAdd,Str.cells,h104,dZ,jJ,gY,jG,tF,hy];exact hZ) :p:=e
theorem LX {p:Prop} (e:p:=by simp -implicitDefEqProofs (disch:=first|omega| (simp only[go_sem,lA,lD,lT,dZ,jJ,gY,i1,hb] <;>omega) |decide) only[go_sem,↓reduceIte,Nat.reduceEqDiff,reduceCtorEq];all_goals (simp[mc,gY])) :p:=e
theorem WW {gl:Nat→C} {M:Nat} {pu:Nat→List C→Option C} (hcx:CxOK (aN gl M pu)) (h104: ∀ (s:S8) (blk:List UInt8) (n:Nat) (t:List UInt8),blk.length=64→n+t.length< 1152921504606846976→pu 104 [.agg (cl wC s.l++(cl bC blk++[.val (nU n)])),.val (str t)] =some (.agg (dm ⟨s,blk,n⟩ t).cells)) (F:Str) (hb:F.blk.length=64) (hn:F.n< 576460752303423488) :FC Tryd.prog gl 105 [.agg F.cells] [] (.agg (cl bC (mc F))) [] :=by
 replace hcx:=hcx.reN (M:=58)
 refine bY (cx:=aN gl 58 pu) (rs:= [.cell 2 141]) rfl Tryd.func105 rfl rfl rfl (by simp only[List.length_cons,List.length_nil];decide) (by simp only[go_sem]) ?_
 simp only[cM,go_sem]
 have hy:=True.intro
 have hz:gi F.n< 64:=Nat.mod_lt _ (by decide)
 refine aa hcx [] _ [none,none] rfl rfl rfl ?_ ec
 refine aa hcx [1000010] _ [] rfl rfl rfl ?_ ec
 refine aa hcx [1000011] _ [] rfl rfl rfl ?_ ec
 refine Tr.k [1,2,3,4] ?_
 refine ae fun K1 hK1=> ?_
 refine Tr.blk ?_
 refine cj (α:=Nat) (fun a=> [(1,?v1_1),(2,?v2_1),(3,?v3_1),(4,sl bC (.own 1) (128::List.replicate a 0))]) (fun a=> [some F.cells,some (cl bC (List.replicate 32 0))]) (fun a=>a≤gi F.n) (fun a=>gi F.n - a) (0) ?_ ?le_1 ?hh_1 ?bd_1
 case hh_1=>exact rfl
 case le_1=> (simp only[bD,aO,↓bB,↓reduceIte,Nat.reduceEqDiff,aD,aP,aE,aQ,aR,and_true,true_and];all_goals (repeat' first|exact CLe.refl _|exact True.intro| (refine bM ?_;first|rfl| (simp only[List.take_zero];done)) |exact cG (by omega) |exact b8 (by omega) |exact ct (by omega) |exact cu (by omega) |with_reducible apply And.intro));exact CLe.full _ _ _
 · omega
 rintro z hzz
 refine ae fun K2 hK2=> ?_
 refine aa hcx [] _ [] rfl rfl rfl ?_ ec
 refine bR rfl (fun hc19=> ?_) (fun hc19=> ?_)
 ·
  refine Tr.skip ?_
  refine hK2 _ ?_
  refine Tr.blk ?_
  refine bF hcx [20,1000022] _ [] rfl rfl rfl ?_ ec
  refine ⟨z+1,⟨by unfold gi at*;omega,by unfold gi at*;omega⟩,?_,rfl⟩
  (simp only[bD,aO,↓bB,↓reduceIte,Nat.reduceEqDiff,aD,aP,aE,aQ,aR,and_true,true_and];all_goals (repeat' first|exact CLe.refl _|exact True.intro| (refine bM ?_;first|rfl| (simp only[List.take_zero];done)) |exact cG (by omega) |exact b8 (by omega) |exact ct (by omega) |exact cu (by omega) |with_reducible apply And.intro))
  all_goals (rw[List.replicate_succ'];exact CLe.refl _)
 obtain rfl:z=gi F.n:=by unfold gi at*;omega
 refine Tr.exit ?_
 refine hK1 _ ?_
 refine ae fun K3 hK3=> ?_
 refine aa hcx [] _ [] rfl rfl rfl ?_ ec
 refine Tr.k [1,2,3,4,23] ?_
 refine Tr.blk ?_
 refine cj (α:=Nat) (fun a=> [(1,?v1_2),(2,?v2_2),(3,?v3_2),(4,sl bC (.own 1) (128::List.replicate (gi F.n) 0++mb (8*F.n) a)),(23,.val (nI a))]) (fun a=> [some F.cells,some (cl bC (List.replicate 32 0))]) (fun a=>a≤8) (fun a=>8 - a) (0) ?_ ?le_2 ?hh_2 ?bd_2
 case hh_2=>exact rfl
 case le_2=> (simp only[bD,aO,↓bB,↓reduceIte,Nat.reduceEqDiff,aD,aP,aE,aQ,aR,and_true,true_and];all_goals (repeat' first|exact CLe.refl _|exact True.intro| (refine bM ?_;first|rfl| (simp only[List.take_zero];done)) |exact cG (by omega) |exact b8 (by omega) |exact ct (by omega) |exact cu (by omega) |with_reducible apply And.intro));all_goals (simp only[mb,List.range_zero,List.map_nil,List.append_nil];exact CLe.refl _)
 · omega
 rintro k hk
 refine aa hcx [] _ [] rfl rfl rfl ?_ ec
 refine ae fun K4 hK4=> ?_
 refine bR rfl (fun hc24=> ?_) (fun hc24=> ?_)
 ·
  refine Tr.skip ?_
  refine hK4 _ ?_
  refine ae fun K5 hK5=> ?_
  refine Tr.blk ?_
  refine aa hcx [1000025] _ [] rfl rfl rfl ?_ ec
  refine bF hcx [26,1000034] _ [] rfl rfl rfl ?_ ec
  refine hK5 _ ?_
  refine bF hcx [] _ [] rfl rfl rfl ?_ ec
  refine ⟨k+1,⟨by omega,O1⟩,?_,rfl⟩
  (simp only[bD,aO,↓bB,↓reduceIte,Nat.reduceEqDiff,aD,aP,aE,aQ,aR,and_true,true_and];all_goals (repeat' first|exact CLe.refl _|exact True.intro| (refine bM ?_;first|rfl| (simp only[List.take_zero];done)) |exact cG (by omega) |exact b8 (by omega) |exact ct (by omega) |exact cu (by omega) |with_reducible apply And.intro))
  all_goals (rw[t8,←List.append_assoc];exact CLe.refl _)
 obtain rfl:k=8:=by omega
 refine Tr.exit ?_
 refine hK3 _ ?_
 refine aa hcx [] _ [] rfl rfl rfl ?_ ec
 refine aa hcx [] _ [none] rfl rfl rfl ?_ ec
 refine ae fun K6 hK6=> ?_
 refine aa hcx [] _ [] rfl rfl rfl ?_ ec
 refine Tr.k [1,2,6,40] ?_
 refine Tr.blk ?_
 refine cj (α:=Nat) (fun a=> [(1,?v1_3),(2,?v2_3),(6,?v6_3),(40,.val (nI a))]) (fun a=> [some (dm F (lp F.n)).cells,some (cl bC (List.replicate 32 0)),some (cl bC (od (dm F (lp F.n)).s a++List.replicate (32 - a) 0))]) (fun a=>a≤32) (fun a=>32 - a) (0) ?_ ?le_3 ?hh_3 ?bd_3
 case hh_3=>exact rfl
 case le_3=>exact LT
 · omega
 rintro i hi
 refine aa hcx [] _ [] rfl rfl rfl ?_ ec
 refine ae fun K7 hK7=> ?_
 refine bR rfl (fun hc41=> ?_) (fun hc41=> ?_)
 ·
  refine Tr.skip ?_
  refine hK7 _ ?_
  refine ae fun K8 hK8=> ?_
  refine Tr.blk ?_
  refine aa hcx [1000042] _ [] rfl rfl rfl ?_ ec
  refine bF hcx [] _ [] rfl rfl rfl ?_ ec
  refine hK8 _ ?_
  refine bF hcx [] _ [] rfl rfl rfl ?_ ec
  exact ⟨i+1,⟨by omega,O1⟩,LT,by dsimp only;rw[←xw _ i hc41];rfl⟩
 obtain rfl:i=32:=by omega
 refine Tr.exit ?_
 refine hK6 _ ?_
 refine aa hcx [] _ [] rfl rfl rfl ?_ ec
 exact Tr.ret LX
end Go.Sx
namespace Go.Sx
open Go.RowKit Go.Proofs
set_option maxRecDepth 100000
set_option maxHeartbeats 8000000
theorem lr {p:Prop} (e:p:=by intro KZ hZ;simp -implicitDefEqProofs (disch:=first|omega| (simp only[go_sem,lA,lD,lT,dZ,i1,sb,mH,xq,lq,hlp1,hlp2] <;>omega) |decide) only[go_sem,↓reduceIte,Nat.reduceEqDiff,reduceCtorEq,Nat.reduceLT,Nat.reduceBEq,Nat.reduceAdd,h103,h104,h105,h74,Str.cells,tF,lq,hy];exact hZ) :p:=e
theorem DB {p:Prop} (e:p:=by intro KZ hZ;simp -implicitDefEqProofs (disch:=first|omega| (simp only[go_sem,lA,lD,lT,dZ,i1,sb,mH,xq,lq,hlp1,hlp2] <;>omega) |decide) only[go_sem,↓reduceIte,Nat.reduceEqDiff,reduceCtorEq,Nat.reduceLT,Nat.reduceBEq,Nat.reduceAdd,h103,h104,h105,h74,Str.cells,tF,lq,hy];refine And.intro ?_ hZ;exact rfl) :p:=e
theorem Si {p:Prop} (e:p:=by simp -implicitDefEqProofs (disch:=first|omega| (simp only[go_sem,lA,lD,lT,dZ,i1,sb,mH,xq,lq,hlp1,hlp2] <;>omega) |decide) only[go_sem,↓reduceIte,Nat.reduceEqDiff,reduceCtorEq];all_goals (simp only[eQ,List.take_length])) :p:=e
theorem aaM {gl:Nat→C} {M:Nat} {pu:Nat→List C→Option C} (hcx:CxOK (aN gl M pu)) (h103:pu 103 [] =some (.agg F0.cells)) (h104: ∀ (s:S8) (blk:List UInt8) (n:Nat) (t:List UInt8),blk.length=64→n+t.length< 1152921504606846976→pu 104 [.agg (cl wC s.l++(cl bC blk++[.val (nU n)])),.val (str t)] =some (.agg (dm ⟨s,blk,n⟩ t).cells)) (h105: ∀ (s:S8) (blk:List UInt8) (n:Nat),blk.length=64→n< 576460752303423488→pu 105 [.agg (cl wC s.l++(cl bC blk++[.val (nU n)]))] =some (.agg (cl bC (mc ⟨s,blk,n⟩)))) (h74: ∀s:List UInt8,s.length< 70368744177664→pu 74 [.val (str s)] =some (sl bC (.own 1) (wb s))) (tag:Int) (parts:List (List UInt8)) (hl: (cK tag parts).length< 1099511627776) :FC Tryd.prog gl 78 [.val (.int .i64 tag),sl sC .no parts] [] (.agg (cl bC ((eQ (cK tag parts)).take 16))) [] :=by
 replace hcx:=hcx.reN (M:=32)
 refine bY (cx:=aN gl 32 pu) (rs:= [.cell 4 29]) rfl Tryd.func78 rfl rfl rfl (by simp only[List.length_cons,List.length_nil];decide) (by simp only[go_sem]) ?_
 simp only[cM,go_sem]
 have hy:=True.intro
 have hlp:=qu tag parts hl
 have hlp1:=hl
 have hpl:=ua tag parts hl
 have hlp2:=True.intro
 refine aa hcx [] _ [none] rfl rfl rfl ?_ lr
 refine bG hcx cJ [] _ [none] rfl rfl rfl rfl ?_ DB
 refine ae fun K1 hK1=> ?_
 refine aa hcx [] _ [] rfl rfl rfl ?_ lr
 refine Tr.k [4,5,15,16,17] ?_
 refine Tr.blk ?_
 refine cj (α:=Nat) (fun a=> [(4,?v4_1),(5,?v5_1),(15,?v15_1),(16,?v16_1),(17,.val (nI a))]) (fun a=> [some (cl bC (List.replicate 16 0)),some (dm F0 (cK tag (parts.take a))).cells]) (fun a=>a≤parts.length) (fun a=>parts.length - a) (0) ?_ ?le_1 ?hh_1 ?bd_1
 case hh_1=>exact rfl
 case le_1=>exact LT
 · omega
 rintro i hi
 refine aa hcx [] _ [] rfl rfl rfl ?_ lr
 refine ae fun K2 hK2=> ?_
 refine bR rfl (fun hc18=> ?_) (fun hc18=> ?_)
 ·
  obtain ⟨hlp1,hlp2⟩ :=hlp i hc18
  refine Tr.skip ?_
  refine hK2 _ ?_
  refine ae fun K3 hK3=> ?_
  refine Tr.blk ?_
  refine aa hcx [1000020] _ [] rfl rfl rfl ?_ lr
  refine gJ hcx cJ [] _ [] rfl rfl rfl rfl ?_ DB
  refine hK3 _ ?_
  refine bF hcx [] _ [] rfl rfl rfl ?_ lr
  exact ⟨i+1,⟨by omega,O1⟩,LT,by dsimp only;rw[qS tag parts i hc18,m9] <;>rfl⟩
 obtain rfl:i=parts.length:=by omega
 have hlp1:=hl
 have hlp2:=True.intro
 simp only[List.take_length]
 refine Tr.exit ?_
 refine hK1 _ ?_
 refine aa hcx [] _ [none] rfl rfl rfl ?_ lr
 refine aa hcx [] _ [] rfl rfl rfl ?_ lr
 exact Tr.ret Si
end Go.Sx
namespace Go.Sx
open Go.RowKit Go.Proofs
end Go.Sx
