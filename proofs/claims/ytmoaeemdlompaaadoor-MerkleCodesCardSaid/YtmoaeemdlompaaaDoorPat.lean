/-
   And what follows.
-/
import Derived.Test.YtmoaeemdlompaaaDoorPas
import Derived.Test.YtmoaeemdlompaaaDoorPan
import Derived.Test.YtmoaeemdlompaaaDoorPar
set_option linter.unusedSimpArgs false
set_option linter.unusedVariables false
namespace Go.Sx
open Go.RowKit Go.Proofs
theorem Ed (n s:Nat)(r:List UInt8)(hn:n< 9223372036854775808)(hs:0< s)(hr:n*s≤r.length):bB (aA n++r) s=0∧cn (aA n++r) =n∧ca (aA n++r) = (aA n).length:=by
 have h:=jH (n:Int) (by omega) r
 refine ⟨?_,by unfold cn;rw[h];rfl,by unfold ca;rw[h]⟩
 refine uY hs (by rw[h];exact fun h=>h rfl) (by rw[h];show ¬ (n:Int) < 0;omega) ?_
 rw[h]
 show ¬ (aA n++r).length - (aA n).length< (n:Int).toNat*s
 rw[List.length_append,Int.toNat_natCast]
 omega
theorem Ee (s t:List UInt8)(hs:s.length< 9223372036854775808):bn (wb s++t) = (s,(wb s).length,0):=by
 unfold wb
 rw[List.append_assoc]
 obtain ⟨h1,h2,h3⟩:=Ed s.length 1 (s++t) hs (by decide) (by rw[List.length_append];omega)
 rw[mL h1,h2,h3,List.drop_left,List.take_left,List.length_append]
theorem Ef {α:Type}(g:List UInt8→α×Nat×Nat)(enc:α→List UInt8)(t:List UInt8):∀ (l:List α)(p:List UInt8)(o:List α),(∀x∈l,∀t,g (enc x++t) = (x,(enc x).length,0))→
 dI g (p++(l.flatMap enc++t)) l.length p.length o= (o++l,p.length+(l.flatMap enc).length,0)
 | [],p,o,_=>by simp[dI]
 |x::l,p,o,h=>by
  have hx:=h x (by simp) (l.flatMap enc++t)
  rw[List.length_cons]
  unfold dI
  have e: (p++((x::l).flatMap enc++t)).drop p.length=enc x++(l.flatMap enc++t):=by
   rw[List.drop_left,List.flatMap_cons,List.append_assoc]
  rw[e,hx,if_neg (not_not_intro rfl)]
  have ih:=Ef g enc t l (p++enc x) (o++[x]) (fun y hy=>h y (by simp[hy]))
  have e2:p++((x::l).flatMap enc++t) = (p++enc x)++(l.flatMap enc++t):=by
   rw[List.flatMap_cons,List.append_assoc,List.append_assoc]
  rw[e2]
  rw[List.length_append] at ih
  show dI g _ l.length (p.length+(enc x).length) (o++[x]) =_
  rw[ih,List.flatMap_cons,List.length_append,List.append_assoc,Nat.add_assoc]
  rfl
theorem tx {α:Type}(g:List UInt8→α×Nat×Nat)(enc:α→List UInt8)(s:Nat)(hs:0< s)(t:List UInt8)(l:List α)(h:∀x∈l,∀t,g (enc x++t) = (x,(enc x).length,0))(hl:l.length< 9223372036854775808)(hz:l.length*s≤(l.flatMap enc).length):
 aX g s (aA l.length++l.flatMap enc++t) = (l,(aA l.length++l.flatMap enc).length,0):=by
 rw[List.append_assoc]
 obtain ⟨h1,h2,h3⟩:=Ed l.length s (l.flatMap enc++t) hl hs (by rw[List.length_append];omega)
 rw[gq h1,h2,h3,Ef g enc t l _ [] h,List.length_append]
 rfl
theorem lU {α:Type}(enc:α→List UInt8)(s:Nat):∀ (l:List α),(∀x∈l,s≤(enc x).length)→l.length*s≤(l.flatMap enc).length
 | [],_=>by simp
 |x::l,h=>by
  have:=lU enc s l (fun y hy=>h y (by simp[hy]))
  have:=h x (by simp)
  rw[List.length_cons,List.flatMap_cons,List.length_append,Nat.succ_mul]
  omega
theorem od (n:Int):1≤(aA n).length:=by unfold aA;split<;>simp
theorem JF (l:List Int)(t:List UInt8)(hl:l.length< 9223372036854775808)(hr:∀x∈l,-9223372036854775808≤x∧x≤9223372036854775807):aX ag 1 (bV l++t) = (l,(bV l).length,0):=
 tx ag aA 1 (by decide) t l (fun x hx t=>jH x (hr x hx) t) hl (lU aA 1 l fun x _=>od x)
theorem JG (l:List (List UInt8))(t:List UInt8)(hl:l.length< 9223372036854775808)(hr:∀x∈l,x.length< 9223372036854775808):aX bn 1 (cf l++t) = (l,(cf l).length,0):=
 tx bn wb 1 (by decide) t l (fun x hx t=>Ee x t (hr x hx)) hl (lU wb 1 l fun x _=>by unfold wb;rw[List.length_append];have:=od x.length;omega)
theorem JH (l:List ba)(t:List UInt8)(hl:l.length< 9223372036854775808):aX b8 16 (db l++t) = (l,(db l).length,0):=
 tx b8 (·.1) 16 (by decide) t l (fun x hx t=>by
  unfold b8
  have e: (x.1++t).take 16=x.1:=by rw[List.take_append_of_le_length (Nat.le_of_eq x.2.symm),List.take_of_length_le (Nat.le_of_eq x.2)]
  rw[e,uZ _ x.2,x.2]) hl (lU _ 16 l fun x _=>Nat.le_of_eq x.2.symm)
theorem Cw {b:List UInt8}(h: (ag b).2.2=0):aA (ag b).1=b.take (ag b).2.1:=by
 rcases b with _| ⟨x,r⟩
 . cases h
 . obtain ⟨k,hk⟩:∃k,iA x=k:=⟨_,rfl⟩
   by_cases h1:8< k
   . rw[uU hk h1] at h;cases h
   by_cases h2: (x::r).length≤k
   . rw[qb hk h1 h2] at h;cases h
   by_cases h3:0< k∧gt (x::r) 1 ^^^ ao x=0
   . rw[oc hk h1 h2 h3.1 h3.2] at h;cases h
   by_cases h4:9223372036854775808≤bH (ao x) (r.take k)
   . rw[uV hk h1 h2 h3 h4] at h;cases h
   have hr:=(Cv rfl hk (by omega) (by omega):_↔_).2 h3
   have hx:=Cu x
   by_cases h5:x< 128
   . rw[qc hk h1 h2 h3 h4 h5]
     rw[hx] at h5
     rw[if_pos h5] at hr
     exact hr
   . rw[qd hk h1 h2 h3 h4 h5]
     rw[hx] at h5
     rw[if_neg h5] at hr
     exact hr
theorem Eg {b:List UInt8}{s:Nat}(hs:0< s)(h:bB b s=0):aA (cn b) =b.take (ca b):=by
 have h1:=gp hs h
 rw[←h1.2.1]
 exact Cw h1.1
theorem xq {α:Type}(b:List α)(i j:Nat):b.take (i+j) =b.take i++(b.drop i).take j:=List.take_add
theorem Nv {b:List UInt8}(h: (bn b).2.2=0):wb (bn b).1=b.take (bn b).2.1:=by
 by_cases hc:bB b 1=0
 . have h1:=gp (by decide) hc
   rw[mL hc]
   show wb _=b.take (ca b+cn b)
   unfold wb
   rw[List.length_take,List.length_drop,Nat.min_eq_left (by omega),Eg (by decide) hc,xq]
 . rw[qe hc] at h;exact absurd h hc
theorem Eh {α:Type}(g:List UInt8→α×Nat×Nat)(enc:α→List UInt8)(s:Nat)(b:List UInt8)
 (hg:∀t,s≤t.length→(g t).2.2=0→enc (g t).1=t.take (g t).2.1∧(g t).2.1≤t.length∧(s=0∨(g t).2.1=s)):
 ∀ (n a:Nat)(l:List α),a≤b.length→n*s≤b.length - a→(dI g b n a l).2.2=0→
   ∃m,(dI g b n a l).1=l++m∧m.length=n∧b.take (dI g b n a l).2.1=b.take a++m.flatMap enc∧(dI g b n a l).2.1≤b.length
 |0,a,l,ha,_,_=>⟨[],by simp[dI],rfl,by simp[dI],by simpa[dI] using ha⟩
 |n+1,a,l,ha,hn,h=>by
  rw[Nat.succ_mul] at hn
  by_cases he: (g (b.drop a)).2.2≠0
  . unfold dI at h;rw[if_pos he] at h;exact absurd h he
  . have he':=Classical.not_not.1 he
    obtain ⟨h1,h2,h3⟩:=hg (b.drop a) (by rw[List.length_drop];omega) he'
    rw[List.length_drop] at h2
    have e:dI g b (n+1) a l=dI g b n (a+(g (b.drop a)).2.1) (l++[(g (b.drop a)).1]):=by
     conv=>lhs;unfold dI
     rw[if_neg he]
    rw[e] at h ⊢
    have hns:n*s≤b.length - (a+(g (b.drop a)).2.1):=by
     rcases h3 with h3|h3
     . rw[h3,Nat.mul_zero];exact Nat.zero_le _
     . omega
    obtain ⟨m,m1,m2,m3,m4⟩:=Eh g enc s b hg n _ _ (by omega) hns h
    refine ⟨(g (b.drop a)).1::m,by rw[m1];simp,by simp[m2],?_,m4⟩
    rw[m3,xq,←h1,List.flatMap_cons,List.append_assoc]
theorem tz {α:Type}(g:List UInt8→α×Nat×Nat)(enc:α→List UInt8)(s s1:Nat)(b:List UInt8)(hs:0< s1)(hss:s≤s1)
 (hg:∀t,s≤t.length→(g t).2.2=0→enc (g t).1=t.take (g t).2.1∧(g t).2.1≤t.length∧(s=0∨(g t).2.1=s)) (h: (aX g s1 b).2.2=0):
 aA (aX g s1 b).1.length++(aX g s1 b).1.flatMap enc=b.take (aX g s1 b).2.1∧(aX g s1 b).2.1≤b.length:=by
 by_cases hc:bB b s1=0
 . have h1:=gp hs hc
   have hm:cn b*s≤cn b*s1:=Nat.mul_le_mul_left _ hss
   rw[gq hc] at h ⊢
   obtain ⟨m,m1,m2,m3,m4⟩:=Eh g enc s b hg (cn b) (ca b) [] (by omega) (by omega) h
   rw[m1,List.nil_append,m2,m3,Eg hs hc]
   exact ⟨rfl,m4⟩
 . rw[j5 hc] at h;exact absurd h hc
theorem JI {b:List UInt8}(h: (aX ag 1 b).2.2=0):bV (aX ag 1 b).1=b.take (aX ag 1 b).2.1∧(aX ag 1 b).2.1≤b.length:=
 tz ag aA 0 1 b (by decide) (by decide) (fun t _ ht=>⟨Cw ht,(dQ t).1,.inl rfl⟩) h
theorem JJ {b:List UInt8}(h: (aX bn 1 b).2.2=0):cf (aX bn 1 b).1=b.take (aX bn 1 b).2.1∧(aX bn 1 b).2.1≤b.length:=
 tz bn wb 0 1 b (by decide) (by decide) (fun t _ ht=>⟨Nv ht,(wq t).1,.inl rfl⟩) h
theorem JK {b:List UInt8}(h: (aX b8 16 b).2.2=0):db (aX b8 16 b).1=b.take (aX b8 16 b).2.1∧(aX b8 16 b).2.1≤b.length:=
 tz b8 (·.1) 16 16 b (by decide) (by decide) (fun t ht _=>by
  have h16: (t.take 16).length=16:=by rw[List.length_take];omega
  refine ⟨?_,ht,.inr rfl⟩
  show (uX (t.take 16)).1=_
  rw[uZ _ h16];rfl) h
theorem TY (n:Int)(h: -9223372036854775808≤n∧n≤9223372036854775807):∃x r,aA n=x::r∧iA x=r.length∧r.length≤8:=by
 have hl:=gJ n h
 have key:∀k:Fin 9,iA (UInt8.ofNat (128+k.val)) =k.val∧iA (UInt8.ofNat (127 - k.val)) =k.val:=by decide
 unfold aA at hl ⊢
 split at hl
 . rename_i h0
   rw[if_pos h0]
   rw[List.length_cons,List.length_reverse] at hl
   exact ⟨_,_,rfl,by rw[List.length_reverse];exact (key ⟨_,by omega⟩).1,by rw[List.length_reverse];omega⟩
 . rename_i h0
   rw[if_neg h0]
   rw[List.length_cons,List.length_map,List.length_reverse] at hl
   exact ⟨_,_,rfl,by rw[List.length_map,List.length_reverse];exact (key ⟨_,by omega⟩).2,by rw[List.length_map,List.length_reverse];omega⟩
theorem Cy (n:Int)(h: -9223372036854775808≤n∧n≤9223372036854775807)(i:Nat)(hi:i< (aA n).length):ag ((aA n).take i) = (0,0,3):=by
 obtain ⟨x,r,e,hk,h8⟩:=TY n h
 rw[e] at hi ⊢
 cases i with
 |zero=>rfl
 |succ i=>
  rw[List.take_succ_cons]
  refine qb hk (by omega) ?_
  rw[List.length_cons] at hi ⊢
  rw[List.length_take];omega
theorem TZ (n s:Nat)(hs:0< s)(hn:n< 9223372036854775808)(t:List UInt8)(i:Nat)(hi:i< (aA n).length+n*s):i< (aA n).length∧bB ((aA n++t).take i) s=3∨¬i< (aA n).length∧bB ((aA n++t).take i) s=3:=by
 by_cases h:i< (aA n).length
 . left
   refine ⟨h,?_⟩
   rw[List.take_append_of_le_length (by omega)]
   have:=Cy n (by omega) i h
   rw[zl (by rw[this];decide),this]
 . right
   refine ⟨h,?_⟩
   have e: (aA n++t).take i=aA n++t.take (i - (aA n).length):=by rw[List.take_append,List.take_of_length_le (by omega)]
   rw[e]
   have hg:=jH n (by omega) (t.take (i - (aA n).length))
   have hlen: (aA n++t.take (i - (aA n).length)).length - (aA n).length≤i - (aA n).length:=by rw[List.length_append,List.length_take];omega
   have hlt: (aA (n:Int)).length+(i - (aA (n:Int)).length) < (aA (n:Int)).length+n*s:=by omega
   refine qf hs (by rw[hg];exact not_not_intro rfl) (by rw[hg];show ¬ ((n:Int) < 0);omega) (.inr ?_)
   rw[hg]
   show (aA (n:Int)++_).length - (aA (n:Int)).length< ((n:Int)).toNat*s
   rw[Int.toNat_natCast]
   omega
theorem o6 (n s:Nat)(hs:0< s)(hn:n< 9223372036854775808)(t:List UInt8)(i:Nat)(hi:i< (aA n).length+n*s):bB ((aA n++t).take i) s=3:=by
 rcases TZ n s hs hn t i hi with h|h
 . exact h.2
 . exact h.2
theorem Nw (s:List UInt8)(hs:s.length< 9223372036854775808)(i:Nat)(hi:i< (wb s).length): (bn ((wb s).take i)).2.2=3:=by
 unfold wb at hi ⊢
 rw[List.length_append] at hi
 have h3:=o6 s.length 1 (by decide) hs s i (by omega)
 rw[qe (by rw[h3];decide),h3]
theorem JL (l:List ba)(hl:l.length< 9223372036854775808)(i:Nat)(hi:i< (db l).length): (aX b8 16 ((db l).take i)).2.2=3:=by
 have hd:=oa l l.length (Nat.le_refl _)
 rw[List.take_length] at hd
 unfold db at hi ⊢
 rw[List.length_append] at hi
 have h3:=o6 l.length 16 (by decide) hl (l.flatMap (·.1)) i (by omega)
 rw[j5 (by rw[h3];decide),h3]
theorem Ei {α:Type}(g:List UInt8→α×Nat×Nat)(enc:α→List UInt8)(hge:∀x:α,True):∀ (l:List α)(p:List UInt8)(o:List α)(i:Nat),
 (∀x∈l,∀t,g (enc x++t) = (x,(enc x).length,0))→(∀x∈l,∀j< (enc x).length,(g ((enc x).take j)).2.2=3)→i< (l.flatMap enc).length→
 (dI g (p++(l.flatMap enc).take i) l.length p.length o).2.2=3
 | [],p,o,i,_,_,hi=>by simp at hi
 |x::l,p,o,i,h,hb,hi=>by
  have hx:=h x (by simp)
  have hxb:=hb x (by simp)
  rw[List.flatMap_cons] at hi ⊢
  rw[List.length_append] at hi
  rw[List.length_cons]
  unfold dI
  rw[List.drop_left]
  by_cases hi2:i< (enc x).length
  . rw[List.take_append_of_le_length (by omega)]
    have h3:=hxb i hi2
    rw[if_pos (by rw[h3];decide),h3]
  . have e: (enc x++l.flatMap enc).take i=enc x++(l.flatMap enc).take (i - (enc x).length):=by rw[List.take_append,List.take_of_length_le (by omega)]
    rw[e,hx,if_neg (not_not_intro rfl)]
    have ih:=Ei g enc hge l (p++enc x) (o++[x]) (i - (enc x).length) (fun y hy=>h y (by simp[hy])) (fun y hy=>hb y (by simp[hy])) (by omega)
    rw[List.length_append,List.append_assoc] at ih
    exact ih
theorem Cz {α:Type}(g:List UInt8→α×Nat×Nat)(enc:α→List UInt8)(l:List α)(hl:l.length< 9223372036854775808)(h:∀x∈l,∀t,g (enc x++t) = (x,(enc x).length,0))(hb:∀x∈l,∀j< (enc x).length,(g ((enc x).take j)).2.2=3)
 (i:Nat) (hi:i< (aA l.length++l.flatMap enc).length): (aX g 1 ((aA l.length++l.flatMap enc).take i)).2.2=3:=by
 rw[List.length_append] at hi
 by_cases hc:bB ((aA l.length++l.flatMap enc).take i) 1=0
 . have hi2:¬i< (aA (l.length:Int)).length+l.length*1:=fun h'=>by
    have:=o6 l.length 1 (by decide) hl (l.flatMap enc) i h'
    rw[this] at hc;cases hc
   have e: (aA (l.length:Int)++l.flatMap enc).take i=aA l.length++(l.flatMap enc).take (i - (aA (l.length:Int)).length):=by rw[List.take_append,List.take_of_length_le (by omega)]
   rw[e] at hc ⊢
   have hg:=jH l.length (by omega) ((l.flatMap enc).take (i - (aA (l.length:Int)).length))
   rw[gq hc]
   have h1:cn (aA l.length++(l.flatMap enc).take (i - (aA (l.length:Int)).length)) =l.length:=by unfold cn;rw[hg];rfl
   have h2:ca (aA l.length++(l.flatMap enc).take (i - (aA (l.length:Int)).length)) = (aA (l.length:Int)).length:=by unfold ca;rw[hg]
   rw[h1,h2]
   exact Ei g enc (fun _=>trivial) l _ [] _ h hb (by omega)
 . have hle:=jo ((aA l.length++l.flatMap enc).take i) 1
   rw[j5 hc]
   by_cases hi2:i< (aA (l.length:Int)).length+l.length*1
   . exact o6 l.length 1 (by decide) hl (l.flatMap enc) i hi2
   . exfalso
     have e: (aA (l.length:Int)++l.flatMap enc).take i=aA l.length++(l.flatMap enc).take (i - (aA (l.length:Int)).length):=by rw[List.take_append,List.take_of_length_le (by omega)]
     rw[e] at hc
     have hg:=jH l.length (by omega) ((l.flatMap enc).take (i - (aA (l.length:Int)).length))
     refine hc (uY (by decide) (by rw[hg];exact not_not_intro rfl) (by rw[hg];show ¬ ((l.length:Int) < 0);omega) ?_)
     rw[hg]
     show ¬ (aA (l.length:Int)++_).length - (aA (l.length:Int)).length< ((l.length:Int)).toNat*1
     rw[Int.toNat_natCast,List.length_append,List.length_take]
     omega
theorem JM (l:List Int)(hl:l.length< 9223372036854775808)(hr:∀x∈l,-9223372036854775808≤x∧x≤9223372036854775807)(i:Nat)(hi:i< (bV l).length): (aX ag 1 ((bV l).take i)).2.2=3:=
 Cz ag aA l hl (fun x hx t=>jH x (hr x hx) t) (fun x hx j hj=>by rw[Cy x (hr x hx) j hj]) i hi
theorem JN (l:List (List UInt8))(hl:l.length< 9223372036854775808)(hr:∀x∈l,x.length< 9223372036854775808)(i:Nat)(hi:i< (cf l).length): (aX bn 1 ((cf l).take i)).2.2=3:=
 Cz bn wb l hl (fun x hx t=>Ee x t (hr x hx)) (fun x hx j hj=>Nw x (hr x hx) j hj) i hi
theorem Ej {α:Type}(g:List UInt8→α×Nat×Nat)(p:α→Prop)(hp:∀t,p (g t).1)(b:List UInt8):∀ (n a:Nat)(l:List α),(∀x∈l,p x)→∀x∈ (dI g b n a l).1,p x
 |0,a,l,h=>h
 |n+1,a,l,h=>by
  unfold dI
  split
  . intro x hx;cases hx
  . exact Ej g p hp b n _ _ fun x hx=>by
     rcases List.mem_append.1 hx with h1|h1
     . exact h x h1
     . rw[List.mem_singleton.1 h1];exact hp _
theorem JO (b:List UInt8):∀x∈ (aX ag 1 b).1,-9223372036854775808≤x∧x≤9223372036854775807:=by
 unfold aX
 split
 . exact Ej ag _ (fun t=>(dQ t).2.2.2) b _ _ _ (fun x hx=>by cases hx)
 . intro x hx;cases hx
theorem Nx (l:List Int):l.length≤(bV l).length:=by
 unfold bV;rw[List.length_append]
 have:=lU aA 1 l (fun x _=>od x)
 omega
theorem Ny (l:List (List UInt8)):l.length+l.flatten.length≤(cf l).length:=by
 have key:∀l:List (List UInt8),l.length+l.flatten.length≤(l.flatMap wb).length:=by
  intro l
  induction l with
  |nil=>simp
  |cons x l ih=>
   rw[List.length_cons,List.flatten_cons,List.flatMap_cons,List.length_append,List.length_append]
   have:x.length+1≤(wb x).length:=by unfold wb;rw[List.length_append];have:=od x.length;omega
   omega
 unfold cf;rw[List.length_append]
 have:=key l
 omega
theorem Nz (l:List ba):l.length≤(db l).length:=by
 unfold db;rw[List.length_append]
 have:=lU (·.1) 16 l (fun x _=>Nat.le_of_eq x.2.symm)
 omega
end Go.Sx
namespace Go.Sx
open Go.RowKit Go.Proofs
set_option maxRecDepth 100000
set_option maxHeartbeats 8000000
abbrev lj (b:List UInt8)(s:Nat):C:=if bB b s=0 then .tup [.val (nI (cn b)),.val (nI (ca b)),.val (nI 0)] else .tup [.val (.int .i64 (ag b).1),.val (nI (ag b).2.1),.val (nI (bB b s))]
abbrev lx (b:List UInt8)(s:Nat):C:=if bB b s=0 then .tup [.val (nI (cn b)),.val (nI (ca b)),.val (nI 0)] else .tup [.val (nI 0),.val (nI 0),.val (nI (bB b s))]
theorem iB {p:Prop}(e:p:=by intro KZ hZ;simp -implicitDefEqProofs (disch:=first|omega| (simp only[go_sem,lA,lD,lT,hgb] <;>omega) |decide) only[go_sem,↓reduceIte,Nat.reduceEqDiff,reduceCtorEq,Nat.reduceLT,Nat.reduceBEq,Nat.reduceAdd,h111,hy];with_reducible exact hZ):p:=e
theorem u4 {p:Prop}(e:p:=by simp -implicitDefEqProofs (disch:=first|omega| (simp only[go_sem,lA,lD,lT,hgb] <;>omega) |decide) only[go_sem,↓reduceIte,Nat.reduceEqDiff,reduceCtorEq];all_goals (first| (rw[zl hc13];try rfl) | (rw[FR hc13 hc16];try rfl) | (rw[Qm hc13 hc16 hc19,hm];try rfl) | (rw[Qn hc13 hc16 hc19,Classical.not_not.1 hc13,hm];try rfl))):p:=e
theorem ajm {gl:Nat→C}{M:Nat}{pu:Nat→List C→Option C}(hcx:CxOK (af gl M pu))(h111:∀b:List UInt8,b.length< 1099511627776→pu 111 [sl bC .no b] =some (.tup [.val (.int .i64 (ag b).1),.val (nI (ag b).2.1),.val (nI (ag b).2.2)]))(b:List UInt8)(s:Nat)(hb:b.length< 1099511627776)(hs:0< s∧s≤16):FC Tryd.prog gl 96 [sl bC .no b,.val (nI s)] [] (.tup [.val (.int .i64 (ag b).1),.val (nI (ag b).2.1),.val (nI (bB b s))]) []:=by
 replace hcx:=hcx.reN (M:=31)
 refine aB (cx:=af gl 31 pu) (rs:=[.tmp 4,.tmp 5,.tmp 6]) rfl Tryd.func96 rfl rfl rfl (by simp only[List.length_cons,List.length_nil];decide) (by simp only[go_sem]) ?_
 simp only[bq,go_sem]
 have hy:=True.intro
 have hgb:=dQ b
 refine Tr.w hcx [] _ [] rfl rfl rfl ?_ iB
 refine Tr.w hcx [1000010,1000011,1000012] _ [] rfl rfl rfl ?_ iB
 refine aa fun K1 hK1=>?_
 refine Tr.blk ?_
 refine Tr.w hcx [1000015] _ [] rfl rfl rfl ?_ iB
 refine aq rfl (fun hc13=>?_) (fun hc13=>?_)
 ·
  refine Tr.skip ?_
  refine hK1 _ ?_
  refine Tr.w hcx [1000028,1000029,1000030] _ [] rfl rfl rfl ?_ iB
  exact Tr.ret u4
 refine Tr.w hcx [1000018] _ [] rfl rfl rfl ?_ iB
 refine aq rfl (fun hc16=>?_) (fun hc16=>?_)
 ·
  refine Tr.v hcx [] _ [] rfl rfl rfl ?_ iB
  refine hK1 _ ?_
  refine Tr.k [4,5,6] ?_
  refine Tr.w hcx [1000028,1000029,1000030] _ [] rfl rfl rfl ?_ iB
  exact Tr.ret u4
 have hm:=FSq hc16
 have hy:= @hm
 refine Tr.w hcx [1000027] _ [] rfl rfl rfl ?_ iB
 refine Tr.k [4,5,6,19] ?_
 refine aq rfl (fun hc19=>?_) (fun hc19=>?_)
 ·
  have hy:=True.intro
  refine Tr.v hcx [] _ [] rfl rfl rfl ?_ iB
  refine hK1 _ ?_
  refine Tr.w hcx [1000028,1000029,1000030] _ [] rfl rfl rfl ?_ iB
  exact Tr.ret u4
 refine Tr.skip ?_
 refine hK1 _ ?_
 have hy:=True.intro
 refine Tr.w hcx [1000028,1000029,1000030] _ [] rfl rfl rfl ?_ iB
 exact Tr.ret u4
theorem eH {p:Prop}(e:p:=by intro KZ hZ;simp -implicitDefEqProofs (disch:=first|omega| (simp only[go_sem,lA,lD,lT,hgb] <;>omega) |decide) only[go_sem,↓reduceIte,Nat.reduceEqDiff,reduceCtorEq,Nat.reduceLT,Nat.reduceBEq,Nat.reduceAdd,h101,hgt,hmul,hy];with_reducible exact hZ):p:=e
theorem mO {p:Prop}(e:p:=by simp -implicitDefEqProofs (disch:=first|omega| (simp only[go_sem,lA,lD,lT,hgb] <;>omega) |decide) only[go_sem,↓reduceIte,Nat.reduceEqDiff,reduceCtorEq];all_goals (first| (have hq:=zl (s:=s) hc17;first| (exact absurd (hq.symm.trans hE) hc17) | (rw[hq];try rfl)) | (have hq:=FR (s:=s) hc17 hc20;first| (exfalso;omega) | (rw[hq];try rfl)) | (have hq:=qf hs.1 hc17 hc20 (.inl hgt);first| (exfalso;omega) | (rw[hq];try rfl)) | (have hq:=qf hs.1 hc17 hc20 (.inr hmul);first| (exfalso;omega) | (rw[hq];try rfl)) | (have hq:=uY hs.1 hc17 hc20 hmul;first|exact absurd hq hE|rfl))):p:=e
theorem aa7 {gl:Nat→C}{M:Nat}{pu:Nat→List C→Option C}(hcx:CxOK (af gl M pu))(h101:∀b:List UInt8,b.length< 1099511627776→pu 101 [sl bC .no b] =some (.tup [.val (.int .i64 (ag b).1),.val (nI (ag b).2.1),.val (nI (ag b).2.2)]))(b:List UInt8)(s:Nat)(hb:b.length< 1099511627776)(hs:0< s∧s≤16)(hE:bB b s=0):FC Tryd.prog gl 100 [sl bC .no b,.val (nI s)] [] (.tup [.val (nI (cn b)),.val (nI (ca b)),.val (nI 0)]) []:=by
 replace hcx:=hcx.reN (M:=37)
 refine aB (cx:=af gl 37 pu) (rs:=[.tmp 4,.tmp 5,.tmp 6]) rfl Tryd.func100 rfl rfl rfl (by simp only[List.length_cons,List.length_nil];decide) (by simp only[go_sem]) ?_
 simp only[bq,go_sem]
 have hgt:=True.intro
 have hmul:=True.intro
 have hy:=True.intro
 have hgb:=dQ b
 refine Tr.w hcx [] _ [] rfl rfl rfl ?_ eH
 refine Tr.w hcx [1000013,1000014,1000015] _ [] rfl rfl rfl ?_ eH
 refine aa fun K1 hK1=>?_
 refine Tr.w hcx [] _ [] rfl rfl rfl ?_ eH
 refine aq rfl (fun hc17=>?_) (fun hc17=>?_)
 ·
  refine Tr.w hcx [1000018] _ [] rfl rfl rfl ?_ eH
  exact Tr.ret mO
 refine Tr.skip ?_
 refine hK1 _ ?_
 refine aa fun K2 hK2=>?_
 refine Tr.w hcx [] _ [] rfl rfl rfl ?_ eH
 refine aq rfl (fun hc20=>?_) (fun hc20=>?_)
 ·
  refine Tr.w hcx [] _ [] rfl rfl rfl ?_ eH
  exact Tr.ret mO
 have hm:=FSq hc20
 have hms: (ag b).1.toNat*s≤(ag b).1.toNat*16:=Nat.mul_le_mul_left _ hs.2
 refine Tr.skip ?_
 refine hK2 _ ?_
 refine Tr.k [0,1,7,8] ?_
 refine aa fun K3 hK3=>?_
 by_cases hgt:b.length< (ag b).1.toNat
 ·
  have hy:= @hm
  refine Tr.w hcx [] [some 21,some 22,some 23,some 24,some 25,some 26,some 27,some 28,some 29,some 30,some 31,some 32,some 33,some 34] [] rfl rfl rfl ?_ eH
  refine bf rfl ?_
  have hy:=True.intro
  refine Tr.w hcx [] _ [] rfl rfl rfl ?_ eH
  exact Tr.ret mO
 by_cases hmul:b.length - (ag b).2.1< (ag b).1.toNat*s
 ·
  have hy:= @hm
  refine Tr.w hcx [] [some 21,some 22,some 23,some 24,some 25,some 26,some 27,some 28,some 29,some 30,some 31,some 32,some 33,some 34] [] rfl rfl rfl ?_ eH
  refine bf rfl ?_
  have hy:=True.intro
  refine Tr.w hcx [] _ [] rfl rfl rfl ?_ eH
  exact Tr.ret mO
 have hy:= @hm
 refine Tr.w hcx [] [some 21,some 22,some 23,some 24,some 25,some 26,some 27,some 28,some 29,some 30,some 31,some 32,some 33,some 34] [] rfl rfl rfl ?_ eH
 refine bc rfl ?_
 refine Tr.skip ?_
 refine hK3 _ ?_
 have hy:=True.intro
 refine Tr.w hcx [1000035,1000036] _ [] rfl rfl rfl ?_ eH
 exact Tr.ret mO
theorem eJ {p:Prop}(e:p:=by intro KZ hZ;simp -implicitDefEqProofs (disch:=first|omega| (simp only[go_sem,lA,lD,lT,hgb] <;>omega) |decide) only[go_sem,↓reduceIte,Nat.reduceEqDiff,reduceCtorEq,Nat.reduceLT,Nat.reduceBEq,Nat.reduceAdd,h101,hgt,hmul,hy];with_reducible exact hZ):p:=e
theorem mP {p:Prop}(e:p:=by simp -implicitDefEqProofs (disch:=first|omega| (simp only[go_sem,lA,lD,lT,hgb] <;>omega) |decide) only[go_sem,↓reduceIte,Nat.reduceEqDiff,reduceCtorEq];all_goals (first| (have hq:=zl (s:=s) hc17;first| (exact absurd (hq.symm.trans hE) hc17) | (rw[hq];try rfl)) | (have hq:=FR (s:=s) hc17 hc20;first| (exfalso;omega) | (rw[hq];try rfl)) | (have hq:=qf hs.1 hc17 hc20 (.inl hgt);first| (exfalso;omega) | (rw[hq];try rfl)) | (have hq:=qf hs.1 hc17 hc20 (.inr hmul);first| (exfalso;omega) | (rw[hq];try rfl)) | (have hq:=uY hs.1 hc17 hc20 hmul;first|exact absurd hq hE|rfl))):p:=e
theorem aa8 {gl:Nat→C}{M:Nat}{pu:Nat→List C→Option C}(hcx:CxOK (af gl M pu))(h101:∀b:List UInt8,b.length< 1099511627776→pu 101 [sl bC .no b] =some (.tup [.val (.int .i64 (ag b).1),.val (nI (ag b).2.1),.val (nI (ag b).2.2)]))(b:List UInt8)(s:Nat)(hb:b.length< 1099511627776)(hs:0< s∧s≤16)(hE:¬bB b s=0):FC Tryd.prog gl 100 [sl bC .no b,.val (nI s)] [] (.tup [.val (nI 0),.val (nI 0),.val (nI (bB b s))]) []:=by
 replace hcx:=hcx.reN (M:=37)
 refine aB (cx:=af gl 37 pu) (rs:=[.tmp 4,.tmp 5,.tmp 6]) rfl Tryd.func100 rfl rfl rfl (by simp only[List.length_cons,List.length_nil];decide) (by simp only[go_sem]) ?_
 simp only[bq,go_sem]
 have hgt:=True.intro
 have hmul:=True.intro
 have hy:=True.intro
 have hgb:=dQ b
 refine Tr.w hcx [] _ [] rfl rfl rfl ?_ eJ
 refine Tr.w hcx [1000013,1000014,1000015] _ [] rfl rfl rfl ?_ eJ
 refine aa fun K1 hK1=>?_
 refine Tr.w hcx [] _ [] rfl rfl rfl ?_ eJ
 refine aq rfl (fun hc17=>?_) (fun hc17=>?_)
 ·
  refine Tr.w hcx [1000018] _ [] rfl rfl rfl ?_ eJ
  exact Tr.ret mP
 refine Tr.skip ?_
 refine hK1 _ ?_
 refine aa fun K2 hK2=>?_
 refine Tr.w hcx [] _ [] rfl rfl rfl ?_ eJ
 refine aq rfl (fun hc20=>?_) (fun hc20=>?_)
 ·
  refine Tr.w hcx [] _ [] rfl rfl rfl ?_ eJ
  exact Tr.ret mP
 have hm:=FSq hc20
 have hms: (ag b).1.toNat*s≤(ag b).1.toNat*16:=Nat.mul_le_mul_left _ hs.2
 refine Tr.skip ?_
 refine hK2 _ ?_
 refine Tr.k [0,1,7,8] ?_
 refine aa fun K3 hK3=>?_
 by_cases hgt:b.length< (ag b).1.toNat
 ·
  have hy:= @hm
  refine Tr.w hcx [] [some 21,some 22,some 23,some 24,some 25,some 26,some 27,some 28,some 29,some 30,some 31,some 32,some 33,some 34] [] rfl rfl rfl ?_ eJ
  refine bf rfl ?_
  have hy:=True.intro
  refine Tr.w hcx [] _ [] rfl rfl rfl ?_ eJ
  exact Tr.ret mP
 by_cases hmul:b.length - (ag b).2.1< (ag b).1.toNat*s
 ·
  have hy:= @hm
  refine Tr.w hcx [] [some 21,some 22,some 23,some 24,some 25,some 26,some 27,some 28,some 29,some 30,some 31,some 32,some 33,some 34] [] rfl rfl rfl ?_ eJ
  refine bf rfl ?_
  have hy:=True.intro
  refine Tr.w hcx [] _ [] rfl rfl rfl ?_ eJ
  exact Tr.ret mP
 have hy:= @hm
 refine Tr.w hcx [] [some 21,some 22,some 23,some 24,some 25,some 26,some 27,some 28,some 29,some 30,some 31,some 32,some 33,some 34] [] rfl rfl rfl ?_ eJ
 refine bc rfl ?_
 refine Tr.skip ?_
 refine hK3 _ ?_
 have hy:=True.intro
 refine Tr.w hcx [1000035,1000036] _ [] rfl rfl rfl ?_ eJ
 exact Tr.ret mP
theorem mQ {p:Prop}(e:p:=by intro KZ hZ;simp -implicitDefEqProofs (disch:=first|omega| (simp only[go_sem,lA,lD,lT,hgb,hcl] <;>omega) |decide) only[go_sem,↓reduceIte,Nat.reduceEqDiff,reduceCtorEq,Nat.reduceLT,Nat.reduceBEq,Nat.reduceAdd,h96,h96e,hcE,hy];with_reducible exact hZ):p:=e
theorem JQ {p:Prop}(e:p:=by simp -implicitDefEqProofs (disch:=first|omega| (simp only[go_sem,lA,lD,lT,hgb,hcl] <;>omega) |decide) only[go_sem,↓reduceIte,Nat.reduceEqDiff,reduceCtorEq];all_goals (first| (rw[mL hcE];done) | (rw[mL hcE];simp only[Nat.add_sub_cancel_left]) | (rw[qe hcE];try rfl))):p:=e
theorem ajn {gl:Nat→C}{M:Nat}{pu:Nat→List C→Option C}(hcx:CxOK (af gl M pu))(h96w:∀ (b:List UInt8) (s:Nat),b.length< 1099511627776∧0< s∧s≤16→pu 96 [sl bC .no b,.val (nI s)] =some (lj b s))(b:List UInt8)(hb:b.length< 1099511627776):FC Tryd.prog gl 98 [sl bC .no b] [] (.tup [.val (str (bn b).1),.val (nI (bn b).2.1),.val (nI (bn b).2.2)]) []:=by
 replace hcx:=hcx.reN (M:=27)
 refine aB (cx:=af gl 27 pu) (rs:=[.tmp 2,.tmp 3,.tmp 4]) rfl Tryd.func98 rfl rfl rfl (by simp only[List.length_cons,List.length_nil];decide) (by simp only[go_sem]) ?_
 simp only[bq,go_sem]
 have hcE:=True.intro
 have hy:=True.intro
 have h96:∀ (b:List UInt8)(s:Nat),b.length< 1099511627776∧0< s∧s≤16∧bB b s=0→pu 96 [sl bC .no b,.val (nI s)] =some (.tup [.val (nI (cn b)),.val (nI (ca b)),.val (nI 0)]):=fun b s h=>(h96w b s ⟨h.1,h.2.1,h.2.2.1⟩).trans (by unfold lj;rw[if_pos h.2.2.2])
 have h96e:∀ (b:List UInt8)(s:Nat),b.length< 1099511627776∧0< s∧s≤16∧¬bB b s=0→pu 96 [sl bC .no b,.val (nI s)] =some (.tup [.val (.int .i64 (ag b).1),.val (nI (ag b).2.1),.val (nI (bB b s))]):=fun b s h=>(h96w b s ⟨h.1,h.2.1,h.2.2.1⟩).trans (by unfold lj;rw[if_neg h.2.2.2])
 have hgb:=dQ b
 have hcl:=jo b 1
 refine Tr.w hcx [] _ [] rfl rfl rfl ?_ mQ
 by_cases hcE:bB b 1=0
 ·
  have hok:=gp (by decide) hcE
  refine Tr.w hcx [1000011,1000012,1000013] _ [] rfl rfl rfl ?_ mQ
  refine aa fun K1 hK1=>?_
  refine Tr.w hcx [] _ [] rfl rfl rfl ?_ mQ
  refine bc rfl ?_
  refine Tr.skip ?_
  refine hK1 _ ?_
  refine Tr.k [0,5,6] ?_
  refine Tr.w hcx [1000023,1000026] _ [] rfl rfl rfl ?_ mQ
  exact Tr.ret JQ
 have hok:=True.intro
 refine Tr.w hcx [1000011,1000012,1000013] _ [] rfl rfl rfl ?_ mQ
 refine aa fun K2 hK2=>?_
 refine Tr.w hcx [] _ [] rfl rfl rfl ?_ mQ
 refine bf rfl ?_
 refine Tr.w hcx [1000016] _ [] rfl rfl rfl ?_ mQ
 exact Tr.ret JQ
theorem kA {p:Prop}(e:p:=by intro KZ hZ;simp -implicitDefEqProofs (disch:=first|omega| (simp only[go_sem,lA,lD,lT,hgb,hcl] <;>omega) |decide) only[go_sem,↓reduceIte,Nat.reduceEqDiff,reduceCtorEq,Nat.reduceLT,Nat.reduceBEq,Nat.reduceAdd,h100,h100e,hcE,hy];with_reducible exact hZ):p:=e
theorem El {p:Prop}(e:p:=by simp -implicitDefEqProofs (disch:=first|omega| (simp only[go_sem,lA,lD,lT,hgb,hcl] <;>omega) |decide) only[go_sem,↓reduceIte,Nat.reduceEqDiff,reduceCtorEq];all_goals (first| (rw[mL hcE];done) | (rw[mL hcE];simp only[Nat.add_sub_cancel_left]) | (rw[qe hcE];try rfl))):p:=e
theorem afu {gl:Nat→C}{M:Nat}{pu:Nat→List C→Option C}(hcx:CxOK (af gl M pu))(h100w:∀ (b:List UInt8) (s:Nat),b.length< 1099511627776∧0< s∧s≤16→pu 100 [sl bC .no b,.val (nI s)] =some (lx b s))(b:List UInt8)(hb:b.length< 1099511627776):FC Tryd.prog gl 102 [sl bC .no b] [] (.tup [.val (str (bn b).1),.val (nI (bn b).2.1),.val (nI (bn b).2.2)]) []:=by
 replace hcx:=hcx.reN (M:=27)
 refine aB (cx:=af gl 27 pu) (rs:=[.tmp 2,.tmp 3,.tmp 4]) rfl Tryd.func102 rfl rfl rfl (by simp only[List.length_cons,List.length_nil];decide) (by simp only[go_sem]) ?_
 simp only[bq,go_sem]
 have hcE:=True.intro
 have hy:=True.intro
 have h100:∀ (b:List UInt8)(s:Nat),b.length< 1099511627776∧0< s∧s≤16∧bB b s=0→pu 100 [sl bC .no b,.val (nI s)] =some (.tup [.val (nI (cn b)),.val (nI (ca b)),.val (nI 0)]):=fun b s h=>(h100w b s ⟨h.1,h.2.1,h.2.2.1⟩).trans (by unfold lx;rw[if_pos h.2.2.2])
 have h100e:∀ (b:List UInt8)(s:Nat),b.length< 1099511627776∧0< s∧s≤16∧¬bB b s=0→pu 100 [sl bC .no b,.val (nI s)] =some (.tup [.val (nI 0),.val (nI 0),.val (nI (bB b s))]):=fun b s h=>(h100w b s ⟨h.1,h.2.1,h.2.2.1⟩).trans (by unfold lx;rw[if_neg h.2.2.2])
 have hgb:=dQ b
 have hcl:=jo b 1
 refine Tr.w hcx [] _ [] rfl rfl rfl ?_ kA
 by_cases hcE:bB b 1=0
 ·
  have hok:=gp (by decide) hcE
  refine Tr.w hcx [1000011,1000012,1000013] _ [] rfl rfl rfl ?_ kA
  refine aa fun K1 hK1=>?_
  refine Tr.w hcx [] _ [] rfl rfl rfl ?_ kA
  refine bc rfl ?_
  refine Tr.skip ?_
  refine hK1 _ ?_
  refine Tr.k [0,5,6] ?_
  refine Tr.w hcx [1000023,1000026] _ [] rfl rfl rfl ?_ kA
  exact Tr.ret El
 have hok:=True.intro
 refine Tr.w hcx [1000011,1000012,1000013] _ [] rfl rfl rfl ?_ kA
 refine aa fun K2 hK2=>?_
 refine Tr.w hcx [] _ [] rfl rfl rfl ?_ kA
 refine bf rfl ?_
 refine Tr.w hcx [1000016] _ [] rfl rfl rfl ?_ kA
 exact Tr.ret El
theorem eM {p:Prop}(e:p:=by intro KZ hZ;simp -implicitDefEqProofs (disch:=first|omega| (simp only[go_sem,lA,lD,lT,hgb,hcl] <;>omega) |decide) only[go_sem,↓reduceIte,Nat.reduceEqDiff,reduceCtorEq,Nat.reduceLT,Nat.reduceBEq,Nat.reduceAdd,h100,h100e,h101,hcE,hy];with_reducible exact hZ):p:=e
theorem CB {p:Prop}(e:p:=by simp -implicitDefEqProofs (disch:=first|omega| (simp only[go_sem,lA,lD,lT,hgb,hcl] <;>omega) |decide) only[go_sem,↓reduceIte,Nat.reduceEqDiff,reduceCtorEq];all_goals (first| (rw[gq hcE,←hst,zm (by omega) hc36];try rfl) | (rw[gq hcE,←hst];try rfl) | (rw[j5 hcE];try rfl))):p:=e
theorem ajo {gl:Nat→C}{M:Nat}{pu:Nat→List C→Option C}(hcx:CxOK (af gl M pu))(h100w:∀ (b:List UInt8) (s:Nat),b.length< 1099511627776∧0< s∧s≤16→pu 100 [sl bC .no b,.val (nI s)] =some (lx b s))(h101:∀b:List UInt8,b.length< 1099511627776→pu 101 [sl bC .no b] =some (.tup [.val (.int .i64 (ag b).1),.val (nI (ag b).2.1),.val (nI (ag b).2.2)]))(b:List UInt8)(hb:b.length< 1099511627776):FC Tryd.prog gl 75 [sl bC .no b] [] (.tup [sl iC .no (aX ag 1 b).1,.val (nI (aX ag 1 b).2.1),.val (nI (aX ag 1 b).2.2)]) []:=by
 replace hcx:=hcx.reN (M:=47)
 refine aB (cx:=af gl 47 pu) (rs:=[.tmp 2,.tmp 3,.tmp 4]) rfl Tryd.func75 rfl rfl rfl (by simp only[List.length_cons,List.length_nil];decide) (by simp only[go_sem]) ?_
 simp only[bq,go_sem]
 have hcE:=True.intro
 have hy:=True.intro
 have h100:∀ (b:List UInt8)(s:Nat),b.length< 1099511627776∧0< s∧s≤16∧bB b s=0→pu 100 [sl bC .no b,.val (nI s)] =some (.tup [.val (nI (cn b)),.val (nI (ca b)),.val (nI 0)]):=fun b s h=>(h100w b s ⟨h.1,h.2.1,h.2.2.1⟩).trans (by unfold lx;rw[if_pos h.2.2.2])
 have h100e:∀ (b:List UInt8)(s:Nat),b.length< 1099511627776∧0< s∧s≤16∧¬bB b s=0→pu 100 [sl bC .no b,.val (nI s)] =some (.tup [.val (nI 0),.val (nI 0),.val (nI (bB b s))]):=fun b s h=>(h100w b s ⟨h.1,h.2.1,h.2.2.1⟩).trans (by unfold lx;rw[if_neg h.2.2.2])
 have hgb:=dQ b
 have hcl:=jo b 1
 refine Tr.w hcx [] _ [] rfl rfl rfl ?_ eM
 by_cases hcE:bB b 1=0
 ·
  have hok:=gp (by decide) hcE
  refine Tr.w hcx [1000016,1000017,1000018] _ [] rfl rfl rfl ?_ eM
  refine aa fun K1 hK1=>?_
  refine Tr.w hcx [] _ [] rfl rfl rfl ?_ eM
  refine bc rfl ?_
  refine Tr.skip ?_
  refine hK1 _ ?_
  refine Tr.w hcx [] _ [] rfl rfl rfl ?_ eM
  refine aa fun K2 hK2=>?_
  refine Tr.w hcx [] _ [] rfl rfl rfl ?_ eM
  refine Tr.k [0,5,6,8,9] ?_
  refine Tr.blk ?_
  refine aN (α:=(Nat×Nat×List Int)) (fun a=>[(0,?v0_1),(5,?v5_1),(6,.val (nI a.2.1)),(8,sl iC (.own 1) a.2.2),(9,.val (nI a.1))]) (fun a=>?h_1) (fun a=>a.1≤cn b∧a.2.1≤b.length∧a.2.2.length=a.1∧dI ag b (cn b - a.1) a.2.1 a.2.2=dI ag b (cn b) (ca b) []) (fun a=>cn b - a.1) ((0,ca b,[])) ?_ ?le_1 ?hh_1 ?bd_1
  case hh_1=>exact rfl
  case le_1=>exact LT
  . exact ⟨Nat.zero_le _,hok.2.2.2.2.1,rfl,rfl⟩
  rintro ⟨i,p,l⟩ ⟨hi,hp,hll,hst⟩
  dsimp only at*
  have hbd:=dQ (b.drop p)
  rw[List.length_drop] at hbd
  refine aa fun K3 hK3=>?_
  refine Tr.w hcx [] _ [] rfl rfl rfl ?_ eM
  refine aq rfl (fun hc24=>?_) (fun hc24=>?_)
  ·
   refine Tr.skip ?_
   refine hK3 _ ?_
   refine aa fun K4 hK4=>?_
   refine Tr.blk ?_
   refine Tr.w hcx [1000032,1000033,1000034] _ [] rfl rfl rfl ?_ eM
   refine aa fun K5 hK5=>?_
   refine Tr.w hcx [] _ [] rfl rfl rfl ?_ eM
   refine aq rfl (fun hc36=>?_) (fun hc36=>?_)
   ·
    refine Tr.w hcx [1000037] _ [] rfl rfl rfl ?_ eM
    first| (refine Tr.k [2,3,4] ?_;refine dZ iC .no (by decide) (by decide) (by decide) ?_) |skip
    exact Tr.ret CB
   refine Tr.skip ?_
   refine hK5 _ ?_
   refine Tr.w hcx [38,1000041] _ [] rfl rfl rfl ?_ eM
   refine Tr.k [0,5,6,8,9,11] ?_
   refine Tr.v hcx [1000044] _ [] rfl rfl rfl ?_ eM
   refine hK4 _ ?_
   refine Tr.v hcx [1000026] _ [] rfl rfl rfl ?_ eM
   exact ⟨(i+1,p+(ag (b.drop p)).2.1,l++[(ag (b.drop p)).1]),⟨⟨by show i+1≤cn b;omega,by show p+(ag (b.drop p)).2.1≤b.length;omega,by show (l++[(ag (b.drop p)).1]).length=i+1;rw[List.length_append,hll];rfl,(uW hc24 (Classical.not_not.1 hc36)).symm.trans hst⟩,O1⟩,LT,rfl⟩
  have hie:i=cn b:=by omega
  rw[hie,Nat.sub_self,su] at hst
  refine Tr.exit ?_
  refine hK2 _ ?_
  refine Tr.w hcx [1000045,1000046] _ [] rfl rfl rfl ?_ eM
  first| (refine Tr.k [2,3,4] ?_;refine dZ iC .no (by decide) (by decide) (by decide) ?_) |skip
  exact Tr.ret CB
 have hok:=True.intro
 refine Tr.w hcx [1000016,1000017,1000018] _ [] rfl rfl rfl ?_ eM
 refine aa fun K6 hK6=>?_
 refine Tr.w hcx [] _ [] rfl rfl rfl ?_ eM
 refine bf rfl ?_
 refine Tr.w hcx [1000021] _ [] rfl rfl rfl ?_ eM
 first| (refine Tr.k [2,3,4] ?_;refine dZ iC .no (by decide) (by decide) (by decide) ?_) |skip
 exact Tr.ret CB
theorem eN {p:Prop}(e:p:=by intro KZ hZ;simp -implicitDefEqProofs (disch:=first|omega| (simp only[go_sem,lA,lD,lT,hgb,hcl] <;>omega) |decide) only[go_sem,↓reduceIte,Nat.reduceEqDiff,reduceCtorEq,Nat.reduceLT,Nat.reduceBEq,Nat.reduceAdd,h100,h100e,h102,hcE,hy];with_reducible exact hZ):p:=e
theorem CC {p:Prop}(e:p:=by simp -implicitDefEqProofs (disch:=first|omega| (simp only[go_sem,lA,lD,lT,hgb,hcl] <;>omega) |decide) only[go_sem,↓reduceIte,Nat.reduceEqDiff,reduceCtorEq];all_goals (first| (rw[gq hcE,←hst,zm (by omega) hc36];try rfl) | (rw[gq hcE,←hst];try rfl) | (rw[j5 hcE];try rfl))):p:=e
theorem ajp {gl:Nat→C}{M:Nat}{pu:Nat→List C→Option C}(hcx:CxOK (af gl M pu))(h100w:∀ (b:List UInt8) (s:Nat),b.length< 1099511627776∧0< s∧s≤16→pu 100 [sl bC .no b,.val (nI s)] =some (lx b s))(h102:∀b:List UInt8,b.length< 1099511627776→pu 102 [sl bC .no b] =some (.tup [.val (str (bn b).1),.val (nI (bn b).2.1),.val (nI (bn b).2.2)]))(b:List UInt8)(hb:b.length< 1099511627776):FC Tryd.prog gl 76 [sl bC .no b] [] (.tup [sl sC .no (aX bn 1 b).1,.val (nI (aX bn 1 b).2.1),.val (nI (aX bn 1 b).2.2)]) []:=by
 replace hcx:=hcx.reN (M:=47)
 refine aB (cx:=af gl 47 pu) (rs:=[.tmp 2,.tmp 3,.tmp 4]) rfl Tryd.func76 rfl rfl rfl (by simp only[List.length_cons,List.length_nil];decide) (by simp only[go_sem]) ?_
 simp only[bq,go_sem]
 have hcE:=True.intro
 have hy:=True.intro
 have h100:∀ (b:List UInt8)(s:Nat),b.length< 1099511627776∧0< s∧s≤16∧bB b s=0→pu 100 [sl bC .no b,.val (nI s)] =some (.tup [.val (nI (cn b)),.val (nI (ca b)),.val (nI 0)]):=fun b s h=>(h100w b s ⟨h.1,h.2.1,h.2.2.1⟩).trans (by unfold lx;rw[if_pos h.2.2.2])
 have h100e:∀ (b:List UInt8)(s:Nat),b.length< 1099511627776∧0< s∧s≤16∧¬bB b s=0→pu 100 [sl bC .no b,.val (nI s)] =some (.tup [.val (nI 0),.val (nI 0),.val (nI (bB b s))]):=fun b s h=>(h100w b s ⟨h.1,h.2.1,h.2.2.1⟩).trans (by unfold lx;rw[if_neg h.2.2.2])
 have hgb:=dQ b
 have hcl:=jo b 1
 refine Tr.w hcx [] _ [] rfl rfl rfl ?_ eN
 by_cases hcE:bB b 1=0
 ·
  have hok:=gp (by decide) hcE
  refine Tr.w hcx [1000016,1000017,1000018] _ [] rfl rfl rfl ?_ eN
  refine aa fun K1 hK1=>?_
  refine Tr.w hcx [] _ [] rfl rfl rfl ?_ eN
  refine bc rfl ?_
  refine Tr.skip ?_
  refine hK1 _ ?_
  refine Tr.w hcx [] _ [] rfl rfl rfl ?_ eN
  refine aa fun K2 hK2=>?_
  refine Tr.w hcx [] _ [] rfl rfl rfl ?_ eN
  refine Tr.k [0,5,6,8,9] ?_
  refine Tr.blk ?_
  refine aN (α:=(Nat×Nat×List (List UInt8))) (fun a=>[(0,?v0_1),(5,?v5_1),(6,.val (nI a.2.1)),(8,sl sC (.own 1) a.2.2),(9,.val (nI a.1))]) (fun a=>?h_1) (fun a=>a.1≤cn b∧a.2.1≤b.length∧a.2.2.length=a.1∧dI bn b (cn b - a.1) a.2.1 a.2.2=dI bn b (cn b) (ca b) []) (fun a=>cn b - a.1) ((0,ca b,[])) ?_ ?le_1 ?hh_1 ?bd_1
  case hh_1=>exact rfl
  case le_1=>exact LT
  . exact ⟨Nat.zero_le _,hok.2.2.2.2.1,rfl,rfl⟩
  rintro ⟨i,p,l⟩ ⟨hi,hp,hll,hst⟩
  dsimp only at*
  have hbd:=wq (b.drop p)
  rw[List.length_drop] at hbd
  refine aa fun K3 hK3=>?_
  refine Tr.w hcx [] _ [] rfl rfl rfl ?_ eN
  refine aq rfl (fun hc24=>?_) (fun hc24=>?_)
  ·
   refine Tr.skip ?_
   refine hK3 _ ?_
   refine aa fun K4 hK4=>?_
   refine Tr.blk ?_
   refine Tr.w hcx [1000032,1000033,1000034] _ [] rfl rfl rfl ?_ eN
   refine aa fun K5 hK5=>?_
   refine Tr.w hcx [] _ [] rfl rfl rfl ?_ eN
   refine aq rfl (fun hc36=>?_) (fun hc36=>?_)
   ·
    refine Tr.w hcx [1000037] _ [] rfl rfl rfl ?_ eN
    first| (refine Tr.k [2,3,4] ?_;refine dZ sC .no (by decide) (by decide) (by decide) ?_) |skip
    exact Tr.ret CC
   refine Tr.skip ?_
   refine hK5 _ ?_
   refine Tr.w hcx [38,1000041] _ [] rfl rfl rfl ?_ eN
   refine Tr.k [0,5,6,8,9,11] ?_
   refine Tr.v hcx [1000044] _ [] rfl rfl rfl ?_ eN
   refine hK4 _ ?_
   refine Tr.v hcx [1000026] _ [] rfl rfl rfl ?_ eN
   exact ⟨(i+1,p+(bn (b.drop p)).2.1,l++[(bn (b.drop p)).1]),⟨⟨by show i+1≤cn b;omega,by show p+(bn (b.drop p)).2.1≤b.length;omega,by show (l++[(bn (b.drop p)).1]).length=i+1;rw[List.length_append,hll];rfl,(uW hc24 (Classical.not_not.1 hc36)).symm.trans hst⟩,O1⟩,LT,rfl⟩
  have hie:i=cn b:=by omega
  rw[hie,Nat.sub_self,su] at hst
  refine Tr.exit ?_
  refine hK2 _ ?_
  refine Tr.w hcx [1000045,1000046] _ [] rfl rfl rfl ?_ eN
  first| (refine Tr.k [2,3,4] ?_;refine dZ sC .no (by decide) (by decide) (by decide) ?_) |skip
  exact Tr.ret CC
 have hok:=True.intro
 refine Tr.w hcx [1000016,1000017,1000018] _ [] rfl rfl rfl ?_ eN
 refine aa fun K6 hK6=>?_
 refine Tr.w hcx [] _ [] rfl rfl rfl ?_ eN
 refine bf rfl ?_
 refine Tr.w hcx [1000021] _ [] rfl rfl rfl ?_ eN
 first| (refine Tr.k [2,3,4] ?_;refine dZ sC .no (by decide) (by decide) (by decide) ?_) |skip
 exact Tr.ret CC
theorem fx {p:Prop}(e:p:=by intro KZ hZ;simp -implicitDefEqProofs (disch:=first|omega| (simp only[go_sem,lA,lD,lT,hgb,hcl] <;>omega) |decide) only[go_sem,↓reduceIte,Nat.reduceEqDiff,reduceCtorEq,Nat.reduceLT,Nat.reduceBEq,Nat.reduceAdd,h96,h96e,h98,hcE,hy];with_reducible exact hZ):p:=e
theorem CD {p:Prop}(e:p:=by simp -implicitDefEqProofs (disch:=first|omega| (simp only[go_sem,lA,lD,lT,hgb,hcl] <;>omega) |decide) only[go_sem,↓reduceIte,Nat.reduceEqDiff,reduceCtorEq];all_goals (first| (rw[gq hcE,←hst,zm (by omega) hc33];try rfl) | (rw[gq hcE,←hst];try rfl) | (rw[j5 hcE];try rfl))):p:=e
theorem ajq {gl:Nat→C}{M:Nat}{pu:Nat→List C→Option C}(hcx:CxOK (af gl M pu))(h96w:∀ (b:List UInt8) (s:Nat),b.length< 1099511627776∧0< s∧s≤16→pu 96 [sl bC .no b,.val (nI s)] =some (lj b s))(h98:∀b:List UInt8,b.length< 1099511627776→pu 98 [sl bC .no b] =some (.tup [.val (str (bn b).1),.val (nI (bn b).2.1),.val (nI (bn b).2.2)]))(b:List UInt8)(hb:b.length< 1099511627776):FC Tryd.prog gl 71 [sl bC .no b] [] (.tup [sl sC .no (aX bn 1 b).1,.val (nI (aX bn 1 b).2.1),.val (nI (aX bn 1 b).2.2)]) []:=by
 replace hcx:=hcx.reN (M:=45)
 refine aB (cx:=af gl 45 pu) (rs:=[.tmp 2,.tmp 3,.tmp 4]) rfl Tryd.func71 rfl rfl rfl (by simp only[List.length_cons,List.length_nil];decide) (by simp only[go_sem]) ?_
 simp only[bq,go_sem]
 have hcE:=True.intro
 have hy:=True.intro
 have h96:∀ (b:List UInt8)(s:Nat),b.length< 1099511627776∧0< s∧s≤16∧bB b s=0→pu 96 [sl bC .no b,.val (nI s)] =some (.tup [.val (nI (cn b)),.val (nI (ca b)),.val (nI 0)]):=fun b s h=>(h96w b s ⟨h.1,h.2.1,h.2.2.1⟩).trans (by unfold lj;rw[if_pos h.2.2.2])
 have h96e:∀ (b:List UInt8)(s:Nat),b.length< 1099511627776∧0< s∧s≤16∧¬bB b s=0→pu 96 [sl bC .no b,.val (nI s)] =some (.tup [.val (.int .i64 (ag b).1),.val (nI (ag b).2.1),.val (nI (bB b s))]):=fun b s h=>(h96w b s ⟨h.1,h.2.1,h.2.2.1⟩).trans (by unfold lj;rw[if_neg h.2.2.2])
 have hgb:=dQ b
 have hcl:=jo b 1
 refine Tr.w hcx [] _ [] rfl rfl rfl ?_ fx
 by_cases hcE:bB b 1=0
 ·
  have hok:=gp (by decide) hcE
  refine Tr.w hcx [1000015,1000016,1000017] _ [] rfl rfl rfl ?_ fx
  refine aa fun K1 hK1=>?_
  refine Tr.w hcx [] _ [] rfl rfl rfl ?_ fx
  refine bc rfl ?_
  refine Tr.skip ?_
  refine hK1 _ ?_
  refine Tr.w hcx [] _ [] rfl rfl rfl ?_ fx
  refine aa fun K2 hK2=>?_
  refine Tr.w hcx [] _ [] rfl rfl rfl ?_ fx
  refine Tr.k [0,6,8,21,22] ?_
  refine Tr.blk ?_
  refine aN (α:=(Nat×Nat×List (List UInt8))) (fun a=>[(0,?v0_1),(6,.val (nI a.2.1)),(8,sl sC (.own 1) a.2.2),(21,?v21_1),(22,.val (nI a.1))]) (fun a=>?h_1) (fun a=>a.1≤cn b∧a.2.1≤b.length∧a.2.2.length=a.1∧dI bn b (cn b - a.1) a.2.1 a.2.2=dI bn b (cn b) (ca b) []) (fun a=>cn b - a.1) ((0,ca b,[])) ?_ ?le_1 ?hh_1 ?bd_1
  case hh_1=>exact rfl
  case le_1=>exact LT
  . exact ⟨Nat.zero_le _,hok.2.2.2.2.1,rfl,rfl⟩
  rintro ⟨i,p,l⟩ ⟨hi,hp,hll,hst⟩
  dsimp only at*
  have hbd:=wq (b.drop p)
  rw[List.length_drop] at hbd
  refine Tr.w hcx [] _ [] rfl rfl rfl ?_ fx
  refine aa fun K3 hK3=>?_
  refine aq rfl (fun hc23=>?_) (fun hc23=>?_)
  ·
   refine Tr.skip ?_
   refine hK3 _ ?_
   refine aa fun K4 hK4=>?_
   refine Tr.blk ?_
   refine Tr.w hcx [1000029,1000030,1000031] _ [] rfl rfl rfl ?_ fx
   refine aa fun K5 hK5=>?_
   refine Tr.w hcx [] _ [] rfl rfl rfl ?_ fx
   refine aq rfl (fun hc33=>?_) (fun hc33=>?_)
   ·
    refine Tr.w hcx [1000034] _ [] rfl rfl rfl ?_ fx
    first| (refine Tr.k [2,3,4] ?_;refine dZ sC .no (by decide) (by decide) (by decide) ?_) |skip
    exact Tr.ret CD
   refine Tr.skip ?_
   refine hK5 _ ?_
   refine Tr.k [0,6,8,9,10,21,22] ?_
   refine Tr.v hcx [35,1000038,1000041] _ [] rfl rfl rfl ?_ fx
   refine hK4 _ ?_
   refine Tr.v hcx [] _ [] rfl rfl rfl ?_ fx
   exact ⟨(i+1,p+(bn (b.drop p)).2.1,l++[(bn (b.drop p)).1]),⟨⟨by show i+1≤cn b;omega,by show p+(bn (b.drop p)).2.1≤b.length;omega,by show (l++[(bn (b.drop p)).1]).length=i+1;rw[List.length_append,hll];rfl,(uW hc23 (Classical.not_not.1 hc33)).symm.trans hst⟩,O1⟩,LT,rfl⟩
  have hie:i=cn b:=by omega
  rw[hie,Nat.sub_self,su] at hst
  refine Tr.exit ?_
  refine hK2 _ ?_
  refine Tr.w hcx [1000043,1000044] _ [] rfl rfl rfl ?_ fx
  first| (refine Tr.k [2,3,4] ?_;refine dZ sC .no (by decide) (by decide) (by decide) ?_) |skip
  exact Tr.ret CD
 have hok:=True.intro
 refine Tr.w hcx [1000015,1000016,1000017] _ [] rfl rfl rfl ?_ fx
 refine aa fun K6 hK6=>?_
 refine Tr.w hcx [] _ [] rfl rfl rfl ?_ fx
 refine bf rfl ?_
 refine Tr.w hcx [1000020] _ [] rfl rfl rfl ?_ fx
 first| (refine Tr.k [2,3,4] ?_;refine dZ sC .no (by decide) (by decide) (by decide) ?_) |skip
 exact Tr.ret CD
end Go.Sx
namespace Go.Sx
open Go.RowKit Go.Proofs
set_option maxRecDepth 100000
set_option maxHeartbeats 8000000
theorem gu {p:Prop}(e:p:=by intro KZ hZ;simp -implicitDefEqProofs (disch:=first|omega| (simp only[go_sem,lA,lD,lT,hgb,hcl] <;>omega) |decide) only[go_sem,↓reduceIte,Nat.reduceEqDiff,reduceCtorEq,Nat.reduceLT,Nat.reduceBEq,Nat.reduceAdd,h96,h96e,Nat.add_sub_cancel_left,hcE,hy];with_reducible exact hZ):p:=e
theorem JR {p:Prop}(e:p:=by simp -implicitDefEqProofs (disch:=first|omega| (simp only[go_sem,lA,lD,lT,hgb,hcl] <;>omega) |decide) only[go_sem,↓reduceIte,Nat.reduceEqDiff,reduceCtorEq];all_goals (first| (rw[gq hcE,←hst,hie];try rfl) | (rw[j5 hcE];try rfl))):p:=e
theorem ajr {gl:Nat→C}{M:Nat}{pu:Nat→List C→Option C}(hcx:CxOK (af gl M pu))(h96w:∀ (b:List UInt8) (s:Nat),b.length< 1099511627776∧0< s∧s≤16→pu 96 [sl bC .no b,.val (nI s)] =some (lj b s))(b:List UInt8)(hb:b.length< 1099511627776):FC Tryd.prog gl 72 [sl bC .no b] [] (.tup [sl dC .no (aX b8 16 b).1,.val (nI (aX b8 16 b).2.1),.val (nI (aX b8 16 b).2.2)]) []:=by
 replace hcx:=hcx.reN (M:=36)
 refine aB (cx:=af gl 36 pu) (rs:=[.tmp 2,.tmp 3,.tmp 4]) rfl Tryd.func72 rfl rfl rfl (by simp only[List.length_cons,List.length_nil];decide) (by simp only[go_sem]) ?_
 simp only[bq,go_sem]
 have hcE:=True.intro
 have hy:=True.intro
 have h96:∀ (b:List UInt8)(s:Nat),b.length< 1099511627776∧0< s∧s≤16∧bB b s=0→pu 96 [sl bC .no b,.val (nI s)] =some (.tup [.val (nI (cn b)),.val (nI (ca b)),.val (nI 0)]):=fun b s h=>(h96w b s ⟨h.1,h.2.1,h.2.2.1⟩).trans (by unfold lj;rw[if_pos h.2.2.2])
 have h96e:∀ (b:List UInt8)(s:Nat),b.length< 1099511627776∧0< s∧s≤16∧¬bB b s=0→pu 96 [sl bC .no b,.val (nI s)] =some (.tup [.val (.int .i64 (ag b).1),.val (nI (ag b).2.1),.val (nI (bB b s))]):=fun b s h=>(h96w b s ⟨h.1,h.2.1,h.2.2.1⟩).trans (by unfold lj;rw[if_neg h.2.2.2])
 have hgb:=dQ b
 have hcl:=jo b 16
 refine Tr.w hcx [] _ [] rfl rfl rfl ?_ gu
 by_cases hcE:bB b 16=0
 ·
  have hok:=gp (by decide) hcE
  refine Tr.w hcx [1000012,1000013,1000014] _ [] rfl rfl rfl ?_ gu
  refine aa fun K1 hK1=>?_
  refine Tr.w hcx [] _ [] rfl rfl rfl ?_ gu
  refine bc rfl ?_
  refine Tr.skip ?_
  refine hK1 _ ?_
  refine Tr.w hcx [] _ [] rfl rfl rfl ?_ gu
  refine aa fun K2 hK2=>?_
  refine Tr.w hcx [] _ [] rfl rfl rfl ?_ gu
  refine Tr.k [0,6,8,18,19] ?_
  refine Tr.blk ?_
  refine aN (α:=(Nat×List ba)) (fun a=>[(0,?v0_1),(6,.val (nI (ca b+16*a.1))),(8,sl dC (.own 16) a.2),(18,?v18_1),(19,.val (nI a.1))]) (fun a=>?h_1) (fun a=>a.1≤cn b∧a.2.length=a.1∧dI b8 b (cn b - a.1) (ca b+16*a.1) a.2=dI b8 b (cn b) (ca b) []) (fun a=>cn b - a.1) ((0,[])) ?_ ?le_1 ?hh_1 ?bd_1
  case hh_1=>exact rfl
  case le_1=>exact LT
  . exact ⟨Nat.zero_le _,rfl,rfl⟩
  rintro ⟨i,l⟩ ⟨hi,hll,hst⟩
  dsimp only at*
  refine Tr.w hcx [] _ [] rfl rfl rfl ?_ gu
  refine aa fun K3 hK3=>?_
  refine aq rfl (fun hc20=>?_) (fun hc20=>?_)
  ·
   have hpb:ca b+16*i+16≤b.length:=by omega
   have hg16:=sw b _ hpb
   refine Tr.skip ?_
   refine hK3 _ ?_
   refine aa fun K4 hK4=>?_
   refine Tr.blk ?_
   refine Tr.w hcx [21,1000030] _ [] rfl rfl rfl ?_ gu
   refine Tr.v hcx [1000032] _ [] rfl rfl rfl ?_ gu
   refine hK4 _ ?_
   refine Tr.v hcx [] _ [] rfl rfl rfl ?_ gu
   refine ⟨(i+1,l++[uX ((b.drop (ca b+16*i)).take 16)]),⟨⟨by show i+1≤cn b;omega,by show (l++[uX ((b.drop (ca b+16*i)).take 16)]).length=i+1;rw[List.length_append,hll];rfl,(Qo (ca b) hc20).symm.trans hst⟩,O1⟩,?_,rfl⟩
   (simp only[aZ,aK,↓aY,↓reduceIte,Nat.reduceEqDiff,aC,aP,aD,aL,aQ,and_true,true_and];all_goals (repeat' first|exact CLe.refl _|exact True.intro| (refine an ?_;first|rfl| (simp only[List.take_zero];done)) |exact a7 (by omega) |exact ay (by omega) |exact aS (by omega) |exact aW (by omega) |with_reducible apply And.intro))
   all_goals (first|exact a7 (by omega) | (refine cg ?_;rw[uZ _ (sw b _ (by omega))];try (exact congrArg (fun d=>l++[d]) (Subtype.ext (by simp)))))
  have hie:i=cn b:=by omega
  rw[hie,Nat.sub_self,su] at hst
  refine Tr.exit ?_
  refine hK2 _ ?_
  refine Tr.w hcx [1000034,1000035] _ [] rfl rfl rfl ?_ gu
  first| (refine Tr.k [2,3,4] ?_;refine dZ dC .no (by decide) (by decide) (by decide) ?_) |skip
  exact Tr.ret JR
 have hok:=True.intro
 refine Tr.w hcx [1000012,1000013,1000014] _ [] rfl rfl rfl ?_ gu
 refine aa fun K5 hK5=>?_
 refine Tr.w hcx [] _ [] rfl rfl rfl ?_ gu
 refine bf rfl ?_
 refine Tr.w hcx [1000017] _ [] rfl rfl rfl ?_ gu
 first| (refine Tr.k [2,3,4] ?_;refine dZ dC .no (by decide) (by decide) (by decide) ?_) |skip
 exact Tr.ret JR
theorem ed {p:Prop}(e:p:=by intro KZ hZ;simp -implicitDefEqProofs (disch:=first|omega| (simp only[go_sem,lA,lD,lT,hgb,hcl] <;>omega) |decide) only[go_sem,↓reduceIte,Nat.reduceEqDiff,reduceCtorEq,Nat.reduceLT,Nat.reduceBEq,Nat.reduceAdd,h100,h100e,Nat.add_sub_cancel_left,hcE,hy];with_reducible exact hZ):p:=e
theorem JS {p:Prop}(e:p:=by simp -implicitDefEqProofs (disch:=first|omega| (simp only[go_sem,lA,lD,lT,hgb,hcl] <;>omega) |decide) only[go_sem,↓reduceIte,Nat.reduceEqDiff,reduceCtorEq];all_goals (first| (rw[gq hcE,←hst,hie];try rfl) | (rw[j5 hcE];try rfl))):p:=e
theorem ajs {gl:Nat→C}{M:Nat}{pu:Nat→List C→Option C}(hcx:CxOK (af gl M pu))(h100w:∀ (b:List UInt8) (s:Nat),b.length< 1099511627776∧0< s∧s≤16→pu 100 [sl bC .no b,.val (nI s)] =some (lx b s))(b:List UInt8)(hb:b.length< 1099511627776):FC Tryd.prog gl 77 [sl bC .no b] [] (.tup [sl dC .no (aX b8 16 b).1,.val (nI (aX b8 16 b).2.1),.val (nI (aX b8 16 b).2.2)]) []:=by
 replace hcx:=hcx.reN (M:=46)
 refine aB (cx:=af gl 46 pu) (rs:=[.tmp 2,.tmp 3,.tmp 4]) rfl Tryd.func77 rfl rfl rfl (by simp only[List.length_cons,List.length_nil];decide) (by simp only[go_sem]) ?_
 simp only[bq,go_sem]
 have hcE:=True.intro
 have hy:=True.intro
 have h100:∀ (b:List UInt8)(s:Nat),b.length< 1099511627776∧0< s∧s≤16∧bB b s=0→pu 100 [sl bC .no b,.val (nI s)] =some (.tup [.val (nI (cn b)),.val (nI (ca b)),.val (nI 0)]):=fun b s h=>(h100w b s ⟨h.1,h.2.1,h.2.2.1⟩).trans (by unfold lx;rw[if_pos h.2.2.2])
 have h100e:∀ (b:List UInt8)(s:Nat),b.length< 1099511627776∧0< s∧s≤16∧¬bB b s=0→pu 100 [sl bC .no b,.val (nI s)] =some (.tup [.val (nI 0),.val (nI 0),.val (nI (bB b s))]):=fun b s h=>(h100w b s ⟨h.1,h.2.1,h.2.2.1⟩).trans (by unfold lx;rw[if_neg h.2.2.2])
 have hgb:=dQ b
 have hcl:=jo b 16
 refine Tr.w hcx [] _ [] rfl rfl rfl ?_ ed
 by_cases hcE:bB b 16=0
 ·
  have hok:=gp (by decide) hcE
  refine Tr.w hcx [1000015,1000016,1000017] _ [] rfl rfl rfl ?_ ed
  refine aa fun K1 hK1=>?_
  refine Tr.w hcx [] _ [] rfl rfl rfl ?_ ed
  refine bc rfl ?_
  refine Tr.skip ?_
  refine hK1 _ ?_
  refine Tr.w hcx [] _ [] rfl rfl rfl ?_ ed
  refine aa fun K2 hK2=>?_
  refine Tr.w hcx [] _ [] rfl rfl rfl ?_ ed
  refine Tr.k [0,5,6,8,9] ?_
  refine Tr.blk ?_
  refine aN (α:=(Nat×List ba)) (fun a=>[(0,?v0_1),(5,?v5_1),(6,.val (nI (ca b+16*a.1))),(8,sl dC (.own 16) a.2),(9,.val (nI a.1))]) (fun a=>[]) (fun a=>a.1≤cn b∧a.2.length=a.1∧dI b8 b (cn b - a.1) (ca b+16*a.1) a.2=dI b8 b (cn b) (ca b) []) (fun a=>cn b - a.1) ((0,[])) ?_ ?le_1 ?hh_1 ?bd_1
  case hh_1=>exact rfl
  case le_1=>exact LT
  . exact ⟨Nat.zero_le _,rfl,rfl⟩
  rintro ⟨i,l⟩ ⟨hi,hll,hst⟩
  dsimp only at*
  refine aa fun K3 hK3=>?_
  refine Tr.w hcx [] _ [] rfl rfl rfl ?_ ed
  refine aq rfl (fun hc23=>?_) (fun hc23=>?_)
  ·
   have hpb:ca b+16*i+16≤b.length:=by omega
   have hg16:=sw b _ hpb
   refine Tr.skip ?_
   refine hK3 _ ?_
   refine aa fun K4 hK4=>?_
   refine Tr.blk ?_
   refine Tr.w hcx [] _ [none] rfl rfl rfl ?_ ed
   refine aa fun K5 hK5=>?_
   refine Tr.w hcx [] _ [] rfl rfl rfl ?_ ed
   refine Tr.k [0,5,6,8,9,10,11] ?_
   refine Tr.blk ?_
   refine aN (α:=Nat) (fun a=>[(0,?v0_2),(5,?v5_2),(6,?v6_2),(8,?v8_2),(9,?v9_2),(10,?v10_2),(11,.val (nI a))]) (fun a=>[some (cl bC ((b.drop (ca b+16*i)).take a++List.replicate (16 - a) 0))]) (fun a=>a≤16) (fun a=>16 - a) (0) ?_ ?le_2 ?hh_2 ?bd_2
   case hh_2=>exact rfl
   case le_2=>exact LT
   . omega
   rintro j hj
   refine aa fun K6 hK6=>?_
   refine Tr.w hcx [] _ [] rfl rfl rfl ?_ ed
   refine aq rfl (fun hc27=>?_) (fun hc27=>?_)
   ·
    refine Tr.skip ?_
    refine hK6 _ ?_
    refine aa fun K7 hK7=>?_
    refine Tr.blk ?_
    refine Tr.v hcx [] _ [] rfl rfl rfl ?_ ed
    refine hK7 _ ?_
    refine Tr.v hcx [1000029] _ [] rfl rfl rfl ?_ ed
    exact ⟨j+1,⟨by omega,O1⟩,LT,by rw[Nu _ j _ (by rw[List.length_take,List.length_drop];omega) hc27,FT b _ j hc27 hpb] <;>rfl⟩
   obtain rfl:j=16:=by omega
   refine Tr.exit ?_
   refine hK5 _ ?_
   refine Tr.w hcx [38,1000041] _ [] rfl rfl rfl ?_ ed
   refine Tr.k [0,5,6,8,9] ?_
   refine wa hcx 0 (by decide) ?_ ?_ ?_
   . simp only[oN,kF,go_sem,Bool.true_and] <;>decide
   . simp only[List.take_succ_cons,List.take_zero,oO,nl,jc,go_sem,Bool.true_and] <;>decide
   simp only[List.take_succ_cons,List.take_zero]
   refine Tr.v hcx [1000043] _ [] rfl rfl rfl ?_ ed
   refine hK4 _ ?_
   refine Tr.v hcx [1000025] _ [] rfl rfl rfl ?_ ed
   refine ⟨(i+1,l++[uX ((b.drop (ca b+16*i)).take 16)]),⟨⟨by show i+1≤cn b;omega,by show (l++[uX ((b.drop (ca b+16*i)).take 16)]).length=i+1;rw[List.length_append,hll];rfl,(Qo (ca b) hc23).symm.trans hst⟩,O1⟩,?_,rfl⟩
   (simp only[aZ,aK,↓aY,↓reduceIte,Nat.reduceEqDiff,aC,aP,aD,aL,aQ,and_true,true_and];all_goals (repeat' first|exact CLe.refl _|exact True.intro| (refine an ?_;first|rfl| (simp only[List.take_zero];done)) |exact a7 (by omega) |exact ay (by omega) |exact aS (by omega) |exact aW (by omega) |with_reducible apply And.intro))
   all_goals (first|exact a7 (by omega) | (refine cg ?_;rw[uZ _ (sw b _ (by omega))];try (exact congrArg (fun d=>l++[d]) (Subtype.ext (by simp)))))
  have hie:i=cn b:=by omega
  rw[hie,Nat.sub_self,su] at hst
  refine Tr.exit ?_
  refine hK2 _ ?_
  refine Tr.w hcx [1000044,1000045] _ [] rfl rfl rfl ?_ ed
  first| (refine Tr.k [2,3,4] ?_;refine dZ dC .no (by decide) (by decide) (by decide) ?_) |skip
  exact Tr.ret JS
 have hok:=True.intro
 refine Tr.w hcx [1000015,1000016,1000017] _ [] rfl rfl rfl ?_ ed
 refine aa fun K8 hK8=>?_
 refine Tr.w hcx [] _ [] rfl rfl rfl ?_ ed
 refine bf rfl ?_
 refine Tr.w hcx [1000020] _ [] rfl rfl rfl ?_ ed
 first| (refine Tr.k [2,3,4] ?_;refine dZ dC .no (by decide) (by decide) (by decide) ?_) |skip
 exact Tr.ret JS
end Go.Sx
namespace Go.Sx
open Go.RowKit Go.Proofs
def isT (l:List ab)(k:List UInt8):Prop:=bg l k< l.length∧(gt l (bg l k)).1=k
instance (l:List ab) (k:List UInt8):Decidable (isT l k):=inferInstanceAs (Decidable (_∧_))
theorem Vj {l:List ab}(h:l.length≤11)(f e:Nat): (cd l f e).length≤24:=by
 unfold cd
 split
 . simp
 . rw[zt l f e 12 4 0 l.length (by show _≤4096;omega) (by show _≤16;omega)]
   have:=j9 l f e 4 0 l.length
   have e: (2:Nat) ^ 4=16:=rfl
   omega
theorem Vk {l:List ab}(h:l.length≤11)(hv:cb l=0)(k:List UInt8): (bR l k).1.2.2.2.length≤24:=by
 unfold bR
 rw[if_pos hv]
 simp only[]
 split<;>exact Vj h _ _
theorem CU:∀n,n< 60→bl (ef n) (ef (n+1)) =true:=by decide+kernel
theorem CV {m:Nat}:∀d,m+1+d≤60→bl (ef m) (ef (m+1+d)) =true
 |0,h=>CU m (by omega)
 |d+1,h=>j7 (CV d (by omega)) (CU _ (by omega))
theorem zJ (l:List Int):∀n,n≤11→∀i,i< n→∃m,(gt (dJ l n).1 i).1=ef m∧m< (dJ l n).2∧(∀j,i< j→j< n→∃m',(gt (dJ l n).1 j).1=ef m'∧m< m'∧m'< (dJ l n).2)
 |0,_,i,h=>by omega
 |n+1,hn,i,h=>by
  have hl:=jr l n
  have g:∀j,j< n→gt (dJ l (n+1)).1 j=gt (dJ l n).1 j:=fun j hj=>by simp only[dJ];exact ke _ _ _ (by omega)
  have gn: (gt (dJ l (n+1)).1 n).1=ef ((dJ l n).2+kI l (2*n) 3):=by simp only[dJ];rw[l8 _ _ _ _ hl]
  have e2: (dJ l (n+1)).2= (dJ l n).2+kI l (2*n) 3+1:=rfl
  by_cases e:i< n
  . obtain ⟨m,h1,h2,h3⟩:=zJ l n (by omega) i e
    refine ⟨m,by rw[g i e];exact h1,by omega,fun j hj hj2=>?_⟩
    by_cases ej:j< n
    . obtain ⟨m',q1,q2,q3⟩:=h3 j hj ej
      exact ⟨m',by rw[g j ej];exact q1,q2,by omega⟩
    . obtain rfl:j=n:=by omega
      exact ⟨_,gn,by omega,by omega⟩
  . obtain rfl:i=n:=by omega
    exact ⟨_,gn,by omega,fun j hj hj2=>by omega⟩
theorem CW {l:List ab}(hs:Srt l):∀n,n≤l.length→fL l n=true
 |0,_=>rfl
 |i+1,h=>by
  simp only[fL,Bool.and_eq_true,Bool.or_eq_true,decide_eq_true_eq]
  refine ⟨CW hs i (by omega),?_⟩
  by_cases e:i=0
  . exact .inl e
  . exact .inr (hs _ _ (by omega) (by omega))
theorem QI (l:List Int):cb (iZ l) =0:=by
 have hb:=Gk l
 have hn:=vC l
 have hs:Srt (iZ l):=fun i j hij hj=>by
  unfold iZ at hj ⊢
  rw[jr] at hj
  obtain ⟨m,h1,_,h3⟩:=zJ l (ln l) hn i (by omega)
  obtain ⟨m',q1,q2,q3⟩:=h3 j hij hj
  have:=vk l (ln l)
  rw[h1,q1]
  obtain ⟨d,rfl⟩:∃d,m'=m+1+d:=⟨m' - m - 1,by omega⟩
  exact CV d (by omega)
 refine zO ?_ (CW hs _ (Nat.le_refl _))
 rintro (h|h)
 . omega
 . rw[List.any_eq_true] at h
   obtain ⟨x,hx,h⟩:=h
   obtain ⟨i,hi,rfl⟩:=List.getElem_of_mem hx
   have:=hb.2 i hi
   have e:gt (iZ l) i= (iZ l)[i]:=by simp[gt,List.getD,List.getElem?_eq_getElem hi]
   rw[e] at this
   unfold cE at h
   simp only[Bool.or_eq_true,decide_eq_true_eq] at h
   omega
end Go.Sx
namespace Go.Sx
open Go.RowKit Go.Proofs
def fo (x:Int):Prop:= -9223372036854775808≤x∧x≤9223372036854775807
def PB (n:Nat)(p:fB):Prop:=fo p.1∧fo p.2.1∧p.2.2.1.length≤n∧(∀i,i< p.2.2.1.length→(gt p.2.2.1 i).1.length≤n∧(gt p.2.2.1 i).2.length≤n)∧p.2.2.2.length≤n
theorem NT (x:Int):fo (m9 x):=by
 have e:IntKind.wrap .i64 x=if x % 18446744073709551616≥9223372036854775808 then x % 18446744073709551616 - 18446744073709551616 else x % 18446744073709551616:=by
  simp[IntKind.wrap,IntKind.bits,IntKind.signed]
 unfold fo m9
 rw[e]
 constructor<;>split<;>omega
theorem PB.mono {n m:Nat}{p:fB}(h:PB n p)(hm:n≤m):PB m p:=⟨h.1,h.2.1,by have:=h.2.2.1;omega,fun i hi=>by have:=h.2.2.2.1 i hi;omega,by have:=h.2.2.2.2;omega⟩
theorem lZ {l:List ab}{n:Nat}: (∀i,i< l.length→(gt l i).1.length≤n∧(gt l i).2.length≤n)↔∀x∈l,x.1.length≤n∧x.2.length≤n:=by
 constructor
 . intro h x hx
   obtain ⟨i,hi,rfl⟩:=List.getElem_of_mem hx
   have:=h i hi
   rwa [GI hi] at this
 . intro h i hi
   rw[GI hi];exact h _ (List.getElem_mem hi)
theorem GY {α:Type}{l:List α}{k:Nat}{a x:α}(h:x∈l.set k a):x∈l∨x=a:=List.mem_or_eq_of_mem_set h
theorem QL {n:Nat}{p:fB}{w y:Int}(h:PB n p)(hy:fo y):PB (n+2) (bZ p w y):=by
 obtain ⟨f,z,l,S⟩:=p
 obtain ⟨h1,h2,h3,h4,h5⟩:=h
 simp only at h1 h2 h3 h4 h5
 have h0:PB (n+2) (f,z,l,S):=PB.mono ⟨h1,h2,h3,h4,h5⟩ (by omega)
 have g:=lZ.1 h4
 have kl:=zS (aG y 40)
 have hc:=dx w (m:=11) (by omega)
 obtain ⟨c,hC⟩:∃c,aG w 11=c:=⟨_,rfl⟩
 obtain ⟨k,hK⟩:∃k,aG y (max l.length 1) =k:=⟨_,rfl⟩
 obtain ⟨j,hJ⟩:∃j,aG y (max S.length 1) =j:=⟨_,rfl⟩
 have hk:=dx y (m:=max l.length 1) (by omega)
 have hj:=dx y (m:=max S.length 1) (by omega)
 rw[hC] at hc;rw[hK] at hk;rw[hJ] at hj
 have gk:0< l.length→(gt l k).1.length≤n∧(gt l k).2.length≤n:=fun q=>h4 k (by omega)
 have mk:∀ {L:List ab},L.length≤n+2→(∀x∈L,x.1.length≤n+2∧x.2.length≤n+2)→PB (n+2) (f,z,L,S):=fun q1 q2=>⟨h1,h2,q1,lZ.2 q2,by show S.length≤n+2;omega⟩
 have mks:∀ {D:List ba},D.length≤n+2→PB (n+2) (f,z,l,D):=fun q1=>⟨h1,h2,h0.2.2.1,h0.2.2.2.1,q1⟩
 have g2:∀x∈l,x.1.length≤n+2∧x.2.length≤n+2:=fun x hx=>by have:=g x hx;omega
 rcases c with _|_|_|_|_|_|_|_|_|_|_|c
 . rw[GJ hC];exact ⟨NT _,h0.2⟩
 . rw[GK hC];exact ⟨h1,NT _,h0.2.2⟩
 . rw[GL hC]
   refine ⟨h1,?_,h0.2.2⟩
   show fo (gt [y,4096,4097,-1] (aG y 4))
   have:=dx y (m:=4) (by omega)
   generalize aG y 4=q at this
   rcases q with _|_|_|_|q
   . exact hy
   . show fo 4096;unfold fo;decide
   . show fo 4097;unfold fo;decide
   . show fo (-1);unfold fo;decide
   . omega
 . rw[GM hC];exact ⟨hy,h0.2⟩
 . by_cases q:0< l.length
   . rw[GN hK hC q]
     refine mk (by rw[List.length_set];omega) fun x hx=>?_
     rcases GY hx with hx|rfl
     . exact g2 x hx
     . have:=gk q;simp only;omega
   . rw[nA (.inl hC) q];exact h0
 . by_cases q:0< l.length
   . rw[GO hK hC q]
     refine mk (by rw[List.length_set];omega) fun x hx=>?_
     rcases GY hx with hx|rfl
     . exact g2 x hx
     . have:=gk q;simp only[List.length_append,List.length_singleton];omega
   . rw[nA (.inr (.inl hC)) q];exact h0
 . by_cases q:0< l.length
   . rw[GP hK hC q]
     refine mk (by rw[List.length_append,List.length_take,List.length_drop];omega) fun x hx=>?_
     rcases List.mem_append.1 hx with hx|hx
     . exact g2 x (List.mem_of_mem_take hx)
     . exact g2 x (List.mem_of_mem_drop hx)
   . rw[nA (.inr (.inr hC)) q];exact h0
 . rw[GQ hC]
   refine mk (by simp only[List.length_append,List.length_singleton];omega) fun x hx=>?_
   rcases List.mem_append.1 hx with hx|hx
   . exact g2 x hx
   . rw[List.mem_singleton.1 hx];simp only[List.length_nil];omega
 . by_cases q:0< S.length
   . rw[GR hJ hC q];exact mks (by rw[List.length_set];omega)
   . rw[tK (.inl hC) q];exact h0
 . by_cases q:0< S.length
   . rw[GS hJ hC q];exact mks (by rw[List.length_append,List.length_take,List.length_drop];omega)
   . rw[tK (.inr hC) q];exact h0
 . rw[CY hC];exact mks (by simp only[List.length_append,List.length_singleton];omega)
 . omega
def pC (p:fB):List C:=[.val (.int .i64 p.1),.val (.int .i64 p.2.1),sl eC .no p.2.2.1,sl dC .no p.2.2.2]
instance:Cel pC 4:=⟨fun _=>rfl,fun _=>rfl,by decide,fun _ _=>rfl⟩
inductive CLs:List C→List C→Prop
 |nil:CLs [] []
 |cons {x y:C} {l m:List C} (h:CLe x y) (t:CLs l m):CLs (x::l) (y::m)
theorem CLs.refl:∀l:List C,CLs l l
 | [] => .nil
 |x::l=> .cons (CLe.refl x) (CLs.refl l)
theorem C1 {a b c d:List C}(h:CLs a b)(h2:CLs c d):CLs (a++c) (b++d):=by
 induction h with
 |nil=>exact h2
 |cons q t ih=>exact .cons q ih
theorem CLs.len {a b:List C}(h:CLs a b):a.length=b.length:=by
 induction h with
 |nil=>rfl
 |cons q t ih=>simp[ih]
theorem QM {G:Gh}{blk:Nat}{l m:List C}(h:CLs l m):∀ {off:Nat},RepK G blk off l→RepK G blk off m:=by
 induction h with
 |nil=>exact fun q=>q
 |cons q t ih=>
  intro off r
  simp only[RepK] at r ⊢
  obtain ⟨⟨u,h1,h2,h3⟩,r2⟩:=r
  exact ⟨⟨u,h1,h2,q.1 G u h3⟩,ih r2⟩
theorem Vy {n:Nat}{l m:List C}(h:CLs l m):CLe (.sl .full n l) (.sl .full n m):=by
 have hl:=h.len
 refine ⟨fun G v q=>?_,fun s n xs e=>by cases e⟩
 simp only[Rep] at q ⊢
 obtain ⟨a,cap,h1,h2,h3,h4,h5⟩:=q
 refine ⟨a,cap,h1,h2,h3,h4,?_⟩
 rcases h5 with h5| ⟨blk,off,ha,hk⟩
 . left;cases h<;>simp_all
 . exact .inr ⟨blk,off,ha,QM h hk⟩
def Ew:fB:=(0,0,[],[])
def zR:List C:=[.val (nI 0),.val (nI 0),.val (.slice none 0 0),.val (.slice none 0 0)]
theorem QN:CLs zR (pC Ew):= .cons (CLe.refl _) (.cons (CLe.refl _) (.cons (an rfl) (.cons (an rfl) .nil)))
theorem lK (ρ:List Nat)(r:Rt)(l:List fB):bA ρ (sl pC r l) =sl pC r l:=by
 have key:∀l:List fB,mvCs ρ (cl pC l) =cl pC l:=fun l=>by
  induction l with
  |nil=>show mvCs ρ [] = [];simp only[mvCs]
  |cons x l ih=>
   show mvCs ρ (.val (.int .i64 x.1):: .val (.int .i64 x.2.1)::sl eC .no x.2.2.1::sl dC .no x.2.2.2::cl pC l) =_
   simp only[mvCs,bA,gS,ih];rfl
 show bA ρ (.sl r l.length (cl pC l)) = .sl r l.length (cl pC l)
 simp only[bA,key]
theorem QO (ok:Nat→Bool)(b:Nat)(ys:List C)(r:Rt)(l:List fB):bz ok b ys (sl pC r l) =sl pC r l:=by
 have key:∀l:List fB,fzCs ok b ys (cl pC l) =cl pC l:=fun l=>by
  induction l with
  |nil=>show fzCs ok b ys [] = [];simp only[fzCs]
  |cons x l ih=>
   show fzCs ok b ys (.val (.int .i64 x.1):: .val (.int .i64 x.2.1)::sl eC .no x.2.2.1::sl dC .no x.2.2.2::cl pC l) =_
   simp only[fzCs,n4,pY,ih];rfl
 show bz ok b ys (.sl r l.length (cl pC l)) = .sl r l.length (cl pC l)
 simp only[bz,key]
def l4 (p:NH):fB:=((p.1:Int),(p.2.1:Int),p.2.2.1,p.2.2.2)
theorem GZ {l:List ab}{n:Nat}(h:∀i,i< l.length→(gt l i).1.length≤n∧(gt l i).2.length≤n)(a b:Nat):∀i,i< ((l.drop a).take b).length→(gt ((l.drop a).take b) i).1.length≤n∧(gt ((l.drop a).take b) i).2.length≤n:=
 lZ.2 fun x hx=>lZ.1 h x (List.mem_of_mem_drop (List.mem_of_mem_take hx))
theorem G5 {l:List ab}{n:Nat}(h:l.length≤n)(h2:∀i,i< l.length→(gt l i).1.length≤n∧(gt l i).2.length≤n)(hn:4096≤n∧n≤1000000){f e:Nat}(hf:f≤l.length):PB n (l4 (jJ l f e)):=
 ⟨by unfold fo;show -9223372036854775808≤((f:Nat):Int)∧((f:Nat):Int)≤_;omega,by unfold fo;show -9223372036854775808≤((l.length:Nat):Int)∧((l.length:Nat):Int)≤_;omega,
   by show ((l.drop f).take (e - f)).length≤n;rw[List.length_take,List.length_drop];omega,GZ h2 _ _,by have:=Gl l f e;show (cd l f e).length≤n;omega⟩
theorem G6 (n:Nat):PB n (l4 (0,0,[],[])):=⟨by unfold fo;decide,by unfold fo;decide,Nat.zero_le _,fun i hi=>absurd hi (Nat.not_lt_zero i),Nat.zero_le _⟩
theorem Vz {l:List ab}{n:Nat}(h:l.length≤n)(h2:∀i,i< l.length→(gt l i).1.length≤n∧(gt l i).2.length≤n)(hn:4096≤n∧n≤1000000)(k:List UInt8):PB n (l4 (bR l k).1):=by
 have hle:=ju l k
 unfold bR
 split
 . simp only[]
   split
   . exact G5 h h2 hn hle
   . exact G5 h h2 hn (by omega)
 . exact G6 n
end Go.Sx
