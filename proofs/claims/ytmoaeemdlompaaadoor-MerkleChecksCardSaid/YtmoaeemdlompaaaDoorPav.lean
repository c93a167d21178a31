/-
   And what follows.
-/
import Derived.Test.YtmoaeemdlompaaaDoorPau
import Derived.Test.YtmoaeemdlompaaaDoorPat
import Derived.Test.YtmoaeemdlompaaaDoorPas
import Derived.Test.YtmoaeemdlompaaaDoorPao
set_option linter.unusedSimpArgs false
set_option linter.unusedVariables false
namespace Go.Sx
open Go.RowKit Go.Proofs
set_option maxRecDepth 100000
theorem atG_inj {f : Nat} : ∀ {d d' : Nat} {p p' : List C},atG f p d = atG f p' d' → d = d'
  | 0,0,_,_,_ => rfl
  | 0,d' + 1,_,_,h => by simp [atG] at h
  | d + 1,0,_,_,h => by simp [atG] at h
  | d + 1,d' + 1,p,p',h => by
    simp only [atG,C.kp.injEq,List.cons.injEq,C.fn.injEq,and_true,true_and] at h
    have := (List.append_inj' h rfl).2
    simp only [List.cons.injEq,and_true] at this
    rw [atG_inj this]
theorem rowR_st (l : List Leaf) (f : Nat) (S : List Dig) : ∀ (d e a b : Nat) (st : TS),b - a ≤ 2 ^ d → b - a ≤ 2 ^ e → rowR l f S d a b st = rowR l f S e a b st
  | 0,e,a,b,st,h1,h2 => by
    by_cases h : b ≤ f ∨ f + l.length ≤ a
    · rw [rowR_s h,rowR_s h]
    · rw [rowR_l h h1,rowR_l h h1]
  | d + 1,0,a,b,st,h1,h2 => by
    by_cases h : b ≤ f ∨ f + l.length ≤ a
    · rw [rowR_s h,rowR_s h]
    · rw [rowR_l h h2,rowR_l h h2]
  | d + 1,e + 1,a,b,st,h1,h2 => by
    by_cases h : b ≤ f ∨ f + l.length ≤ a
    · rw [rowR_s h,rowR_s h]
    · by_cases h' : b - a ≤ 1
      · rw [rowR_l h h',rowR_l h h']
      · have hh := half_lt (n := b - a) (by omega)
        have g1 := half_le (by omega) h1
        have g2 := half_le (by omega) h2
        rw [rowR_n h h',rowR_n h h',rowR_st l f S d e a _ st (by omega) (by omega),rowR_st l f S d e _ b _ (by omega) (by omega)]
section
variable {gl : Nat → C} {M : Nat} {pu : Nat → List C → Option C}
abbrev D79 (d : Nat) := {q : List Leaf × Nat × Nat // OkL q.1 ∧ q.2.1 < q.2.2 ∧ q.2.2 ≤ q.1.length ∧ q.2.2 - q.2.1 ≤ 2 ^ d}
def e79 (d : Nat) (q : D79 d) : List C := [.val (nI q.1.2.1),.val (nI q.1.2.2),.kp [sl eC .no q.1.1],atG 79 [.kp [sl eC .no q.1.1]] d]
def o79 (d : Nat) (q : D79 d) : C := .agg (cl bC (rowD q.1.1 d q.1.2.1 q.1.2.2))
theorem n79 (l : List Leaf) (a b d : Nat) : noRefs 0 [.val (nI a),.val (nI b),.kp [sl eC .no l],atG 79 [.kp [sl eC .no l]] d] = true := by
  simp only [noRefs_cons,noRefs_nil,noRef_val,noRef_kp,noRef_sl,Bool.and_self,Bool.true_and,Bool.and_true]
  exact atG_nr 0 79 _ (by simp only [noRefs_cons,noRefs_nil,noRef_kp,noRef_sl,Bool.and_self]) d
theorem i79 (d : Nat) (x y : D79 d) (h : e79 d x = e79 d y) : o79 d x = o79 d y := by
  simp only [e79,List.cons.injEq,C.val.injEq,C.kp.injEq,nI_inj,sl_inj,and_true] at h
  simp only [o79,h]
theorem fc79 (hcx : CxOK (cxP gl M pu)) (h80 : ∀ x : Leaf,x.1.length ≤ 65536 ∧ x.2.length ≤ 65536 → pu 80 [.agg (eC x)] = some (.agg (cl bC (lefT x))))
    (h81 : ∀ x y : Nat,x ≤ y ∧ y ≤ 4611686018427387000 → pu 81 [.val (nI x),.val (nI y)] = some (.val (nI (x + halfT (y - x)))))
    (h82 : ∀ a b : List UInt8,a.length = 16 → b.length = 16 → pu 82 [.agg (cl bC a),.agg (cl bC b)] = some (.agg (cl bC (nodT a b)))) :
    ∀ (d : Nat) (l : List Leaf) (a b : Nat),OkL l → a < b ∧ b ≤ l.length ∧ b - a ≤ 2 ^ d → FC Tryd.prog gl 79 [.val (nI a),.val (nI b),.kp [sl eC .no l],atG 79 [.kp [sl eC .no l]] d] [] (.agg (cl bC (rowD l d a b))) []
  | 0,l,a,b,hl,hab => fc79z hcx h80 l 0 a b hl ⟨hab.1,hab.2.1,hab.2.2⟩
  | d + 1,l,a,b,hl,hab => by
    by_cases h : b - a ≤ 1
    · exact fc79z hcx h80 l (d + 1) a b hl ⟨hab.1,hab.2.1,h⟩
    · have hcx' : CxOK (cxP gl M (Sx.ext pu 79 (tabOf (e79 d) (o79 d)))) := CxOK.ext2 (N := M) hcx (fun q => n79 _ _ _ _) fun q => fc79 hcx h80 h81 h82 d q.1.1 q.1.2.1 q.1.2.2 q.2.1 q.2.2
      exact fc79s hcx' (fun x y h => (ext_miss (by decide) _).trans (h81 x y h)) (fun x y h h' => (ext_miss (by decide) _).trans (h82 x y h h')) l d a b hl ⟨hab.1,hab.2.1,hab.2.2,by omega⟩
        (fun a b hab => (ext_hit _).trans (tabOf_enc (i79 d) ⟨(l,a,b),hl,hab⟩))
theorem toR (hcx : CxOK (cxP gl M pu)) (N : Nat) : CxOK (cxR gl N pu fun _ _ _ => none) := hcx.reN
theorem treS (T : List (List UInt8)) (S : List Dig) (u : Nat) (sh : Bool) : ∀ o ∈ ([some [sl sC (.own 1) T,sl dC .no S,.val (nI u),.val (.bool sh)]] : Hp),((liveC o).isSome || (mpL o).isSome) = true := fun o h => by
  rw [List.mem_singleton.1 h]; rfl
abbrev A86 := {q : List (List UInt8) × List Dig × Nat × Bool × Int × List (List UInt8) // q.1.length ≤ 1000000 ∧ (inp q.2.2.2.2.1 q.2.2.2.2.2).length < 1099511627776}
def s86 (hcx : CxOK (cxP gl M pu)) (h65 : ∀ (tag : Int) (parts : List (List UInt8)),(inp tag parts).length < 1099511627776 → pu 65 [.val (.int .i64 tag),sl sC .no parts] = some (sl bC (.own 1) (inp tag parts)))
    (h64 : ∀ b : List UInt8,b.length < 35184372088832 → pu 64 [sl bC .no b] = some (.agg (cl bC ((sha b).take 16)))) : Small Tryd.prog gl 86 A86 where
  k := 1
  j := 0
  args q := [.bp 0 0,.val (.int .i64 q.1.2.2.2.2.1),sl sC .no q.1.2.2.2.2.2]
  X q := [some [sl sC (.own 1) q.1.1,sl dC .no q.1.2.1,.val (nI q.1.2.2.1),.val (.bool q.1.2.2.2.1)]]
  r q := .agg (cl bC (ofT q.1.2.2.2.2.1 q.1.2.2.2.2.2))
  Y q := [some [sl sC (.own 1) (q.1.1 ++ [inp q.1.2.2.2.2.1 q.1.2.2.2.2.2]),sl dC .no q.1.2.1,.val (nI q.1.2.2.1),.val (.bool q.1.2.2.2.1)]]
  k0 := by decide
  hk _ := rfl
  hy _ := rfl
  al q := treS _ _ _ _
  nr q := by simp only [noRefs_cons,noRefs_nil,noRef_val,noRef_sl,Bool.and_true]; rfl
  nx q := tre_nr _ _ _ _
  at0 q := ⟨0,rfl⟩
  inj := fun x y h1 h2 => by
    simp only [List.cons.injEq,Option.some.injEq,C.val.injEq,Value.int.injEq,Value.bool.injEq,nI_inj,sl_inj,and_true,true_and] at h1 h2
    simp only [h1,h2,and_self]
  fc q := fc86 (toR hcx 0) h65 h64 q.1.1 q.1.2.1 q.1.2.2.1 q.1.2.2.2.1 q.1.2.2.2.2.1 q.1.2.2.2.2.2 q.2.1 q.2.2
def K85 (d : Nat) (l : List Leaf) (f : Nat) (S : List Dig) (T : List (List UInt8)) (u a b : Nat) : Prop := LZ l ∧ f ≤ 5000 ∧ S.length ≤ 1000000 ∧ u ≤ S.length ∧ T.length ≤ 900000 - 2 ^ (d + 1) ∧ d ≤ 12 ∧ a < b ∧ b ≤ 5000 ∧ b - a ≤ 2 ^ d
structure A85 where
  (l : List Leaf) (f : Nat) (S : List Dig) (T : List (List UInt8)) (u : Nat) (sh : Bool) (d a b : Nat)
  ok : K85 d l f S T u a b
def s85 (W : A85 → Prop) (fc : ∀ q : A85,W q → FC Tryd.prog gl 85 [.bp 0 0,sl eC .no q.l,.val (nI q.f),.val (nI q.a),.val (nI q.b)] [some [sl sC (.own 1) (q.T),sl dC .no q.S,.val (nI (q.u)),.val (.bool (q.sh))]] (.agg (cl bC (rowR q.l q.f q.S q.d q.a q.b (q.T,q.u,q.sh)).1)) [some [sl sC (.own 1) ((rowR q.l q.f q.S q.d q.a q.b (q.T,q.u,q.sh)).2.1),sl dC .no q.S,.val (nI ((rowR q.l q.f q.S q.d q.a q.b (q.T,q.u,q.sh)).2.2.1)),.val (.bool ((rowR q.l q.f q.S q.d q.a q.b (q.T,q.u,q.sh)).2.2.2))]]) : Small Tryd.prog gl 85 {q : A85 // W q} where
  k := 1
  j := 0
  args q := [.bp 0 0,sl eC .no q.1.l,.val (nI q.1.f),.val (nI q.1.a),.val (nI q.1.b)]
  X q := [some [sl sC (.own 1) (q.1.T),sl dC .no q.1.S,.val (nI (q.1.u)),.val (.bool (q.1.sh))]]
  r q := .agg (cl bC (rowR q.1.l q.1.f q.1.S q.1.d q.1.a q.1.b (q.1.T,q.1.u,q.1.sh)).1)
  Y q := [some [sl sC (.own 1) ((rowR q.1.l q.1.f q.1.S q.1.d q.1.a q.1.b (q.1.T,q.1.u,q.1.sh)).2.1),sl dC .no q.1.S,.val (nI ((rowR q.1.l q.1.f q.1.S q.1.d q.1.a q.1.b (q.1.T,q.1.u,q.1.sh)).2.2.1)),.val (.bool ((rowR q.1.l q.1.f q.1.S q.1.d q.1.a q.1.b (q.1.T,q.1.u,q.1.sh)).2.2.2))]]
  k0 := by decide
  hk _ := rfl
  hy _ := rfl
  al q := treS _ _ _ _
  nr q := by simp only [noRefs_cons,noRefs_nil,noRef_val,noRef_sl,Bool.and_true]; rfl
  nx q := tre_nr _ _ _ _
  at0 q := ⟨0,rfl⟩
  inj := fun x y h1 h2 => by
    simp only [List.cons.injEq,Option.some.injEq,C.val.injEq,Value.int.injEq,Value.bool.injEq,nI_inj,sl_inj,and_true,true_and] at h1 h2
    have e := rowR_st y.1.l y.1.f y.1.S x.1.d y.1.d y.1.a y.1.b (y.1.T,y.1.u,y.1.sh) (by have := x.1.ok.2.2.2.2.2.2.2.2; rw [h1.2.2.1,h1.2.2.2] at this; exact this) y.1.ok.2.2.2.2.2.2.2.2
    simp only [h1,h2,e,and_self]
  fc q := fc q.1 q.2
abbrev F85 (gl : Nat → C) (q : A85) : Prop := FC Tryd.prog gl 85 [.bp 0 0,sl eC .no q.l,.val (nI q.f),.val (nI q.a),.val (nI q.b)] [some [sl sC (.own 1) (q.T),sl dC .no q.S,.val (nI (q.u)),.val (.bool (q.sh))]] (.agg (cl bC (rowR q.l q.f q.S q.d q.a q.b (q.T,q.u,q.sh)).1)) [some [sl sC (.own 1) ((rowR q.l q.f q.S q.d q.a q.b (q.T,q.u,q.sh)).2.1),sl dC .no q.S,.val (nI ((rowR q.l q.f q.S q.d q.a q.b (q.T,q.u,q.sh)).2.2.1)),.val (.bool ((rowR q.l q.f q.S q.d q.a q.b (q.T,q.u,q.sh)).2.2.2))]]
theorem look86 (hcx : CxOK (cxP gl M pu)) (h65 : ∀ (tag : Int) (parts : List (List UInt8)),(inp tag parts).length < 1099511627776 → pu 65 [.val (.int .i64 tag),sl sC .no parts] = some (sl bC (.own 1) (inp tag parts))) (h64 : ∀ b : List UInt8,b.length < 35184372088832 → pu 64 [sl bC .no b] = some (.agg (cl bC ((sha b).take 16)))) (hp : Nat → List C → Hp → Option (C × Hp)) (pre suf : Hp) (T : List (List UInt8)) (S : List Dig) (u : Nat) (sh : Bool) (tag : Int) (parts : List (List UInt8)) (h0 : OkH pre) (h1 : OkH suf) (h2 : T.length ≤ 1000000) (h3 : (inp tag parts).length < 1099511627776) :
    (s86 hcx h65 h64).tab hp 86 [.bp pre.length 0,.val (.int .i64 tag),sl sC .no parts] (pre ++ ([some [sl sC (.own 1) (T),sl dC .no S,.val (nI (u)),.val (.bool (sh))]] ++ suf)) = some (.agg (cl bC (ofT tag parts)),pre ++ ([some [sl sC (.own 1) (T ++ [inp tag parts]),sl dC .no S,.val (nI (u)),.val (.bool (sh))]] ++ suf)) := by
  have h := Small.look (s86 hcx h65 h64) hp ⟨(T,S,u,sh,tag,parts),h2,h3⟩ pre suf h0 h1
  simpa only [s86,List.length_nil,Nat.zero_add,Nat.add_zero,bkCs,bkC,bks_cl,bk_sl,shH_cons,shH_nil,Option.map_some,List.map_cons,List.map_nil,List.nil_append,List.cons_append] using h
theorem look85 (W : A85 → Prop) (fc : ∀ q : A85,W q → F85 gl q) (hp : Nat → List C → Hp → Option (C × Hp)) (q : A85) (hq : W q) (pre suf : Hp) (h0 : OkH pre) (h1 : OkH suf) :
    (s85 W fc).tab hp 85 [.bp pre.length 0,sl eC .no q.l,.val (nI q.f),.val (nI q.a),.val (nI q.b)] (pre ++ ([some [sl sC (.own 1) (q.T),sl dC .no q.S,.val (nI (q.u)),.val (.bool (q.sh))]] ++ suf)) = some (.agg (cl bC (rowR q.l q.f q.S q.d q.a q.b (q.T,q.u,q.sh)).1),pre ++ ([some [sl sC (.own 1) ((rowR q.l q.f q.S q.d q.a q.b (q.T,q.u,q.sh)).2.1),sl dC .no q.S,.val (nI ((rowR q.l q.f q.S q.d q.a q.b (q.T,q.u,q.sh)).2.2.1)),.val (.bool ((rowR q.l q.f q.S q.d q.a q.b (q.T,q.u,q.sh)).2.2.2))]] ++ suf)) := by
  have h := Small.look (s85 W fc) hp ⟨q,hq⟩ pre suf h0 h1
  simpa only [s85,List.length_nil,Nat.zero_add,Nat.add_zero,bkCs,bkC,bks_cl,bk_sl,shH_cons,shH_nil,Option.map_some,List.map_cons,List.map_nil,List.nil_append,List.cons_append] using h
theorem fc85 (hcx : CxOK (cxP gl M pu)) (hnr : ∀ (g : Nat) (xs : List C),noRefs 0 xs = false → pu g xs = none) (h65 : ∀ (tag : Int) (parts : List (List UInt8)),(inp tag parts).length < 1099511627776 → pu 65 [.val (.int .i64 tag),sl sC .no parts] = some (sl bC (.own 1) (inp tag parts))) (h64 : ∀ b : List UInt8,b.length < 35184372088832 → pu 64 [sl bC .no b] = some (.agg (cl bC ((sha b).take 16)))) (h84 : ∀ h : List UInt8,h.length = 16 → pu 84 [.agg (cl bC h)] = some (.val (str h))) (h106 : ∀ n : Nat,n ≤ 4611686018427387000 → pu 106 [.val (nI n)] = some (.val (nI (halfT n)))) : ∀ (d : Nat) (q : A85),q.d = d → F85 gl q
  | 0,⟨l,f,S,T,u,sh,d,a,b,hk⟩,hd => by
    obtain rfl : d = 0 := hd
    obtain ⟨k1,k2,k3,k4,k5,k6,k7,k8,k9⟩ := hk
    exact fc85z (CxOK.sm (M := M) (toR hcx M) ⟨_,Tryd.func86,rfl,rfl⟩ (s86 hcx h65 h64)) l f S T u sh 0 a b k1 k2 k3 k4 k5 k6 ⟨k7,k8,k9⟩ (.inr (.inr k9)) hnr (fun xs h => Small.never _ _ xs h)
      (fun suf T S u sh tag parts h1 h2 h3 => look86 hcx h65 h64 _ [] suf T S u sh tag parts OkH.nil h1 h2 h3)
  | d + 1,⟨l,f,S,T,u,sh,d',a,b,hk⟩,hd => by
    obtain rfl : d' = d + 1 := hd
    obtain ⟨k1,k2,k3,k4,k5,k6,k7,k8,k9⟩ := hk
    have ok := CxOK.sm (M := M) (toR hcx M) ⟨_,Tryd.func86,rfl,rfl⟩ (s86 hcx h65 h64)
    by_cases hz : b ≤ f ∨ f + l.length ≤ a ∨ b - a ≤ 1
    · exact fc85z ok l f S T u sh (d + 1) a b k1 k2 k3 k4 k5 k6 ⟨k7,k8,k9⟩ hz hnr (fun xs h => Small.never _ _ xs h)
        (fun suf T S u sh tag parts h1 h2 h3 => look86 hcx h65 h64 _ [] suf T S u sh tag parts OkH.nil h1 h2 h3)
    · have F := fc85 hcx hnr h65 h64 h84 h106 d
      exact fc85s (CxOK.sm (M := M) ok ⟨_,Tryd.func85,rfl,rfl⟩ (s85 (fun q => q.d = d) F)) l f S T u sh d a b k1 k2 k3 k4 k5 k6 ⟨k7,k8,k9⟩
        (fun suf T u sh a b h1 h2 h3 h4 => look85 (fun q => q.d = d) F _ ⟨l,f,S,T,u,sh,d,a,b,k1,k2,k3,h3,h2,by omega,h4.1,h4.2.2,h4.2.1⟩ rfl [] suf OkH.nil h1)
        (by omega) (by omega) (by omega) hnr
        (fun xs h => (Small.miss _ _ (by decide) _ _).trans (Small.never _ _ xs h))
        (fun suf T S u sh tag parts h1 h2 h3 => (Small.miss _ _ (by decide) _ _).trans (look86 hcx h65 h64 _ [] suf T S u sh tag parts OkH.nil h1 h2 h3))
        (fun xs h => Small.never _ _ xs h) h84 h106
abbrev S85 (F : ∀ q : A85,F85 gl q) := s85 (fun _ => True) (fun q _ => F q)
abbrev B52 := {q : List Leaf × Nat × List Dig × Nat × List (List UInt8) × Nat × Bool // LZ q.1 ∧ q.2.1 ≤ 5000 ∧ q.2.2.1.length ≤ 1000000 ∧ q.2.2.2.2.2.1 ≤ q.2.2.1.length ∧ q.2.2.2.2.1.length ≤ 800000 ∧ q.2.2.2.1 ≤ 4096}
def s52 (fc : ∀ q : B52,FC Tryd.prog gl 52 [.bp 0 0,sl eC .no q.1.1,.val (nI q.1.2.1),.val (nI q.1.2.2.2.1)] [some [sl sC (.own 1) (q.1.2.2.2.2.1),sl dC .no q.1.2.2.1,.val (nI (q.1.2.2.2.2.2.1)),.val (.bool (q.1.2.2.2.2.2.2))]] (.agg (cl bC (rooR q.1.1 q.1.2.1 q.1.2.2.1 q.1.2.2.2.1 (q.1.2.2.2.2.1,q.1.2.2.2.2.2.1,q.1.2.2.2.2.2.2)).1)) [some [sl sC (.own 1) ((rooR q.1.1 q.1.2.1 q.1.2.2.1 q.1.2.2.2.1 (q.1.2.2.2.2.1,q.1.2.2.2.2.2.1,q.1.2.2.2.2.2.2)).2.1),sl dC .no q.1.2.2.1,.val (nI ((rooR q.1.1 q.1.2.1 q.1.2.2.1 q.1.2.2.2.1 (q.1.2.2.2.2.1,q.1.2.2.2.2.2.1,q.1.2.2.2.2.2.2)).2.2.1)),.val (.bool ((rooR q.1.1 q.1.2.1 q.1.2.2.1 q.1.2.2.2.1 (q.1.2.2.2.2.1,q.1.2.2.2.2.2.1,q.1.2.2.2.2.2.2)).2.2.2))]]) : Small Tryd.prog gl 52 B52 where
  k := 1
  j := 0
  args q := [.bp 0 0,sl eC .no q.1.1,.val (nI q.1.2.1),.val (nI q.1.2.2.2.1)]
  X q := [some [sl sC (.own 1) (q.1.2.2.2.2.1),sl dC .no q.1.2.2.1,.val (nI (q.1.2.2.2.2.2.1)),.val (.bool (q.1.2.2.2.2.2.2))]]
  r q := .agg (cl bC (rooR q.1.1 q.1.2.1 q.1.2.2.1 q.1.2.2.2.1 (q.1.2.2.2.2.1,q.1.2.2.2.2.2.1,q.1.2.2.2.2.2.2)).1)
  Y q := [some [sl sC (.own 1) ((rooR q.1.1 q.1.2.1 q.1.2.2.1 q.1.2.2.2.1 (q.1.2.2.2.2.1,q.1.2.2.2.2.2.1,q.1.2.2.2.2.2.2)).2.1),sl dC .no q.1.2.2.1,.val (nI ((rooR q.1.1 q.1.2.1 q.1.2.2.1 q.1.2.2.2.1 (q.1.2.2.2.2.1,q.1.2.2.2.2.2.1,q.1.2.2.2.2.2.2)).2.2.1)),.val (.bool ((rooR q.1.1 q.1.2.1 q.1.2.2.1 q.1.2.2.2.1 (q.1.2.2.2.2.1,q.1.2.2.2.2.2.1,q.1.2.2.2.2.2.2)).2.2.2))]]
  k0 := by decide
  hk _ := rfl
  hy _ := rfl
  al q := treS _ _ _ _
  nr q := by simp only [noRefs_cons,noRefs_nil,noRef_val,noRef_sl,Bool.and_true]; rfl
  nx q := tre_nr _ _ _ _
  at0 q := ⟨0,rfl⟩
  inj := fun x y h1 h2 => by
    simp only [List.cons.injEq,Option.some.injEq,C.val.injEq,Value.int.injEq,Value.bool.injEq,nI_inj,sl_inj,and_true,true_and] at h1 h2
    simp only [h1,h2,and_self]
  fc q := fc q
theorem gc52 (hcx : CxOK (cxP gl M pu)) (hnr : ∀ (g : Nat) (xs : List C),noRefs 0 xs = false → pu g xs = none) (h65 : ∀ (tag : Int) (parts : List (List UInt8)),(inp tag parts).length < 1099511627776 → pu 65 [.val (.int .i64 tag),sl sC .no parts] = some (sl bC (.own 1) (inp tag parts))) (h64 : ∀ b : List UInt8,b.length < 35184372088832 → pu 64 [sl bC .no b] = some (.agg (cl bC ((sha b).take 16)))) (h84 : ∀ h : List UInt8,h.length = 16 → pu 84 [.agg (cl bC h)] = some (.val (str h))) (h106 : ∀ n : Nat,n ≤ 4611686018427387000 → pu 106 [.val (nI n)] = some (.val (nI (halfT n)))) (h83 : ∀ n : Int,-9223372036854775808 ≤ n ∧ n ≤ 9223372036854775807 → pu 83 [.val (.int .i64 n)] = some (sl bC (.own 1) (wint n))) (q : B52) : FC Tryd.prog gl 52 [.bp 0 0,sl eC .no q.1.1,.val (nI q.1.2.1),.val (nI q.1.2.2.2.1)] [some [sl sC (.own 1) (q.1.2.2.2.2.1),sl dC .no q.1.2.2.1,.val (nI (q.1.2.2.2.2.2.1)),.val (.bool (q.1.2.2.2.2.2.2))]] (.agg (cl bC (rooR q.1.1 q.1.2.1 q.1.2.2.1 q.1.2.2.2.1 (q.1.2.2.2.2.1,q.1.2.2.2.2.2.1,q.1.2.2.2.2.2.2)).1)) [some [sl sC (.own 1) ((rooR q.1.1 q.1.2.1 q.1.2.2.1 q.1.2.2.2.1 (q.1.2.2.2.2.1,q.1.2.2.2.2.2.1,q.1.2.2.2.2.2.2)).2.1),sl dC .no q.1.2.2.1,.val (nI ((rooR q.1.1 q.1.2.1 q.1.2.2.1 q.1.2.2.2.1 (q.1.2.2.2.2.1,q.1.2.2.2.2.2.1,q.1.2.2.2.2.2.2)).2.2.1)),.val (.bool ((rooR q.1.1 q.1.2.1 q.1.2.2.1 q.1.2.2.2.1 (q.1.2.2.2.2.1,q.1.2.2.2.2.2.1,q.1.2.2.2.2.2.2)).2.2.2))]] := by
  have F : ∀ q : A85,F85 gl q := fun q => fc85 hcx hnr h65 h64 h84 h106 q.d q rfl
  have ok := CxOK.sm (M := M) (CxOK.sm (M := M) (toR hcx M) ⟨_,Tryd.func86,rfl,rfl⟩ (s86 hcx h65 h64)) ⟨_,Tryd.func85,rfl,rfl⟩ (S85 F)
  exact fc52 (hcx := ok) (hnr := hnr) (hn86 := fun xs h => (Small.miss _ _ (by decide) _ _).trans (Small.never _ _ xs h))
    (hq86 := fun suf T S u sh tag parts h1 h2 h3 => (Small.miss _ _ (by decide) _ _).trans (look86 hcx h65 h64 _ [] suf T S u sh tag parts OkH.nil h1 h2 h3))
    (hn85 := fun xs h => Small.never _ _ xs h)
    (hq85 := fun suf l f S d T u sh a b h1 h2 h3 h4 h5 h6 h7 h8 => look85 _ _ _ ⟨l,f,S,T,u,sh,d,a,b,h2,h3,h4,h5,h6,h7,h8⟩ True.intro [] suf OkH.nil h1)
    (h84 := h84) (h83 := h83) (l := q.1.1) (f := q.1.2.1) (S := q.1.2.2.1) (T := q.1.2.2.2.2.1) (u := q.1.2.2.2.2.2.1) (sh := q.1.2.2.2.2.2.2) (n := q.1.2.2.2.1) (hl := q.2.1) (hf := q.2.2.1) (hS := q.2.2.2.1) (hu := q.2.2.2.2.1) (hT := q.2.2.2.2.2.1) (hn := q.2.2.2.2.2.2)
theorem fc14' (hcx : CxOK (cxP gl M pu)) (hnr : ∀ (g : Nat) (xs : List C),noRefs 0 xs = false → pu g xs = none) (h65 : ∀ (tag : Int) (parts : List (List UInt8)),(inp tag parts).length < 1099511627776 → pu 65 [.val (.int .i64 tag),sl sC .no parts] = some (sl bC (.own 1) (inp tag parts))) (h64 : ∀ b : List UInt8,b.length < 35184372088832 → pu 64 [sl bC .no b] = some (.agg (cl bC ((sha b).take 16)))) (h84 : ∀ h : List UInt8,h.length = 16 → pu 84 [.agg (cl bC h)] = some (.val (str h))) (h106 : ∀ n : Nat,n ≤ 4611686018427387000 → pu 106 [.val (nI n)] = some (.val (nI (halfT n)))) (h83 : ∀ n : Int,-9223372036854775808 ≤ n ∧ n ≤ 9223372036854775807 → pu 83 [.val (.int .i64 n)] = some (sl bC (.own 1) (wint n))) (h16 : ∀ l : List Leaf,LB l → pu 16 [sl eC .no l] = some (.val (nI (valT l)))) (l : List Leaf) (hl : LB l) : FC Tryd.prog gl 14 [sl eC .no l] [] (.tup [.agg (cl bC (rooT l).1),.val (nI (rooT l).2)]) [] := by
  have F := gc52 hcx hnr h65 h64 h84 h106 h83
  exact fc14 (hcx := CxOK.sm (M := M) (toR hcx M) ⟨_,Tryd.func52,rfl,rfl⟩ (s52 F)) (hnr := hnr) (h16 := h16) (hn52 := fun xs h => Small.never _ _ xs h)
    (hq52 := fun pre suf l f S n T u sh h0 h1 h2 h3 h4 h5 h6 h7 => by
      have h := Small.look (s52 F) (fun _ _ _ => none) ⟨(l,f,S,n,T,u,sh),h2,h3,h4,h5,h6,h7⟩ pre suf h0 h1
      simpa only [s52,List.length_nil,Nat.zero_add,Nat.add_zero,bkCs,bkC,bks_cl,bk_sl,shH_cons,shH_nil,Option.map_some,List.map_cons,List.map_nil,List.nil_append,List.cons_append] using h) (l := l) (hl := hl)
abbrev D92 (d : Nat) := {q : List Leaf × Nat × Nat × Nat × Nat // OkL q.1 ∧ (q.2.1 ≤ 5000 ∧ q.2.2.1 ≤ 5000) ∧ d ≤ 12 ∧ q.2.2.2.1 < q.2.2.2.2 ∧ q.2.2.2.2 ≤ q.1.length ∧ q.2.2.2.2 - q.2.2.2.1 ≤ 2 ^ d}
def e92 (d : Nat) (q : D92 d) : List C := [sl eC .no q.1.1,.val (nI q.1.2.1),.val (nI q.1.2.2.1),.val (nI q.1.2.2.2.1),.val (nI q.1.2.2.2.2)]
def o92 (d : Nat) (q : D92 d) : C := sl dC (.own 16) (sdsT q.1.1 q.1.2.1 q.1.2.2.1 d q.1.2.2.2.1 q.1.2.2.2.2)
theorem n92 (d : Nat) (q : D92 d) : noRefs 0 (e92 d q) = true := by
  simp only [e92,noRefs_cons,noRefs_nil,noRef_val,noRef_sl,Bool.and_self]
theorem i92 (d : Nat) (x y : D92 d) (h : e92 d x = e92 d y) : o92 d x = o92 d y := by
  simp only [e92,List.cons.injEq,C.val.injEq,C.kp.injEq,nI_inj,sl_inj,and_true] at h
  simp only [o92,h]
theorem gc92 (hcx : CxOK (cxP gl M pu)) (hnr : ∀ (g : Nat) (xs : List C),noRefs 0 xs = false → pu g xs = none) (h65 : ∀ (tag : Int) (parts : List (List UInt8)),(inp tag parts).length < 1099511627776 → pu 65 [.val (.int .i64 tag),sl sC .no parts] = some (sl bC (.own 1) (inp tag parts))) (h64 : ∀ b : List UInt8,b.length < 35184372088832 → pu 64 [sl bC .no b] = some (.agg (cl bC ((sha b).take 16)))) (h84 : ∀ h : List UInt8,h.length = 16 → pu 84 [.agg (cl bC h)] = some (.val (str h))) (h106 : ∀ n : Nat,n ≤ 4611686018427387000 → pu 106 [.val (nI n)] = some (.val (nI (halfT n)))) : ∀ (d : Nat) (q : D92 d),FC Tryd.prog gl 92 (e92 d q) [] (o92 d q) []
  | d,⟨(l,f,e,a,b),hl,hf,hd,h1,h2,h3⟩ => by
    by_cases hz : b ≤ f ∨ e ≤ a ∨ b - a ≤ 1
    · have F : ∀ q : A85,F85 gl q := fun q => fc85 hcx hnr h65 h64 h84 h106 q.d q rfl
      exact fc92z (hcx := CxOK.sm (M := M) (toR hcx M) ⟨_,Tryd.func85,rfl,rfl⟩ (S85 F)) (l := l) (f := f) (e := e) (d := d) (a := a) (b := b) (hl := hl) (hf := hf) (hd := hd) (hab := ⟨h1,h2,h3⟩) (hz := hz) (hnr := hnr) (hn85 := fun xs h => Small.never _ _ xs h)
        (hq85 := fun pre suf l f S d T u sh a b h0 h1 h2 h3 h4 h5 h6 h7 h8 => look85 _ _ _ ⟨l,f,S,T,u,sh,d,a,b,h2,h3,h4,h5,h6,h7,h8⟩ True.intro pre suf h0 h1)
    · cases d with
      | zero => exact (hz (.inr (.inr h3))).elim
      | succ d =>
        have F := gc92 hcx hnr h65 h64 h84 h106 d
        have hcx' : CxOK (cxP gl M (Sx.ext pu 92 (tabOf (e92 d) (o92 d)))) := CxOK.ext2 (N := M) hcx (n92 d) F
        have hcx2 := toR hcx' M
        exact fc92s (hcx := hcx2) (l := l) (f := f) (e := e) (d := d) (a := a) (b := b) (hl := hl) (hf := hf) (hd := hd) (hab := ⟨h1,h2,h3⟩)
          (h92 := fun a b hab => (ext_hit _).trans (tabOf_enc (i92 d) ⟨(l,f,e,a,b),hl,hf,by omega,hab⟩)) (hz1 := by omega) (hz2 := by omega) (hz3 := by omega) (h106 := fun n h => (ext_miss (by decide) _).trans (h106 n h))
theorem fc92 (hcx : CxOK (cxP gl M pu)) (hnr : ∀ (g : Nat) (xs : List C),noRefs 0 xs = false → pu g xs = none) (h65 : ∀ (tag : Int) (parts : List (List UInt8)),(inp tag parts).length < 1099511627776 → pu 65 [.val (.int .i64 tag),sl sC .no parts] = some (sl bC (.own 1) (inp tag parts))) (h64 : ∀ b : List UInt8,b.length < 35184372088832 → pu 64 [sl bC .no b] = some (.agg (cl bC ((sha b).take 16)))) (h84 : ∀ h : List UInt8,h.length = 16 → pu 84 [.agg (cl bC h)] = some (.val (str h))) (h106 : ∀ n : Nat,n ≤ 4611686018427387000 → pu 106 [.val (nI n)] = some (.val (nI (halfT n)))) (l : List Leaf) (f e a b : Nat) (hl : OkL l) (hf : f ≤ 5000 ∧ e ≤ 5000) (hab : a < b ∧ b ≤ l.length) :
    FC Tryd.prog gl 92 [sl eC .no l,.val (nI f),.val (nI e),.val (nI a),.val (nI b)] [] (sl dC (.own 16) (sdsT l f e 12 a b)) [] :=
  gc92 hcx hnr h65 h64 h84 h106 12 ⟨(l,f,e,a,b),hl,hf,by decide,hab.1,hab.2,by have := hl.1; show b - a ≤ 4096; omega⟩
end
end Go.Sx
namespace Go.Sx
open Go.RowKit Go.Proofs
set_option maxRecDepth 100000
theorem hnr_ext {pu : Nat → List C → Option C} (hnr : ∀ f xs,noRefs 0 xs = false → pu f xs = none) {α : Type} {enc : α → List C} {out : α → C} {f : Nat} (he : ∀ a,noRefs 0 (enc a) = true) : ∀ g xs,noRefs 0 xs = false → Sx.ext pu f (tabOf enc out) g xs = none := fun g xs hr => by
  by_cases hgf : g = f
  · subst hgf
    rw [ext_hit]
    cases hq : tabOf enc out xs with
    | none => rfl
    | some c =>
      obtain ⟨a,rfl,_⟩ := tabOf_some hq
      rw [he a] at hr; cases hr
  · rw [ext_miss hgf]; exact hnr g xs hr
theorem eC_inj {x y : Leaf} : eC x = eC y ↔ x = y := ⟨fun h => Inj.inj _ _ h,fun h => by rw [h]⟩
theorem S8_inj {s t : S8} : s.l = t.l ↔ s = t := by
  constructor
  · intro h
    obtain ⟨a,b,c,d,e,f,g,i⟩ := s
    obtain ⟨a',b',c',d',e',f',g',i'⟩ := t
    simpa [S8.l] using h
  · rintro rfl; rfl
theorem cells_inj {s s' : S8} {b b' : List UInt8} {n n' : Nat} (hb : b.length = 64) (hb' : b'.length = 64) (h : cl wC s.l ++ (cl bC b ++ [C.val (nU n)]) = cl wC s'.l ++ (cl bC b' ++ [C.val (nU n')])) : s = s' ∧ b = b' ∧ n = n' := by
  rw [app_inj (f := wC) (by rw [S8.l_len,S8.l_len]),app_inj (f := bC) (by rw [hb,hb'])] at h
  simp only [S8_inj,List.cons.injEq,C.val.injEq,nU_inj,and_true] at h
  exact h
theorem feed_out (s s' : S8) (b b' : List UInt8) (n n' : Nat) (t t' : List UInt8) (hb : b.length = 64) (hb' : b'.length = 64)
    (h : [C.agg (cl wC s.l ++ (cl bC b ++ [C.val (nU n)])),C.val (str t)] = [C.agg (cl wC s'.l ++ (cl bC b' ++ [C.val (nU n')])),C.val (str t')]) : C.agg (feed ⟨s,b,n⟩ t).cells = C.agg (feed ⟨s',b',n'⟩ t').cells := by
  simp only [List.cons.injEq,C.agg.injEq,C.val.injEq,str_inj,and_true] at h
  obtain ⟨rfl,rfl,rfl⟩ := cells_inj hb hb' h.1
  rw [h.2]
theorem sum_out (s s' : S8) (b b' : List UInt8) (n n' : Nat) (hb : b.length = 64) (hb' : b'.length = 64)
    (h : [C.agg (cl wC s.l ++ (cl bC b ++ [C.val (nU n)]))] = [C.agg (cl wC s'.l ++ (cl bC b' ++ [C.val (nU n')]))]) : C.agg (cl bC (sumF ⟨s,b,n⟩)) = C.agg (cl bC (sumF ⟨s',b',n'⟩)) := by
  simp only [List.cons.injEq,C.agg.injEq,and_true] at h
  obtain ⟨rfl,rfl,rfl⟩ := cells_inj hb hb' h
  rfl
section
variable {gl : Nat → C} {M : Nat} {pu : Nat → List C → Option C}
structure A91 where
  (l : List Leaf) (f e z : Nat) (lv : List Leaf) (S : List Dig) (d a b : Nat)
  ok : OkL l ∧ (f ≤ 5000 ∧ e ≤ 5000) ∧ S.length ≤ 100000 - 2 ^ d ∧ d ≤ 12 ∧ a < b ∧ b ≤ l.length ∧ b - a ≤ 2 ^ d
abbrev F91 (gl : Nat → C) (q : A91) : Prop := FC Tryd.prog gl 91 [.val (nI q.a),.val (nI q.b),.kp [.val (nI q.f)],.kp [.val (nI q.e)],.bp 0 0,.kp [sl eC .no q.l],atG 91 [.kp [.val (nI q.f)],.kp [.val (nI q.e)],.bp 0 0,.kp [sl eC .no q.l]] q.d] [some [.val (nI q.f),.val (nI q.z),sl eC .no q.lv,sl dC (.own 16) q.S]] (.tup []) [some [.val (nI q.f),.val (nI q.z),sl eC .no q.lv,sl dC (.own 16) (q.S ++ sdsT q.l q.f q.e q.d q.a q.b)]]
def s91 (W : A91 → Prop) (fc : ∀ q : A91,W q → F91 gl q) : Small Tryd.prog gl 91 {q : A91 // W q} where
  k := 1
  j := 4
  args q := [.val (nI q.1.a),.val (nI q.1.b),.kp [.val (nI q.1.f)],.kp [.val (nI q.1.e)],.bp 0 0,.kp [sl eC .no q.1.l],atG 91 [.kp [.val (nI q.1.f)],.kp [.val (nI q.1.e)],.bp 0 0,.kp [sl eC .no q.1.l]] q.1.d]
  X q := [some [.val (nI q.1.f),.val (nI q.1.z),sl eC .no q.1.lv,sl dC (.own 16) q.1.S]]
  r q := .tup []
  Y q := [some [.val (nI q.1.f),.val (nI q.1.z),sl eC .no q.1.lv,sl dC (.own 16) (q.1.S ++ sdsT q.1.l q.1.f q.1.e q.1.d q.1.a q.1.b)]]
  k0 := by decide
  hk _ := rfl
  hy _ := rfl
  al q := fun o h => by rw [List.mem_singleton.1 h]; rfl
  nr q := by
    simp only [noRefs_cons,noRefs_nil,noRef_val,noRef_kp,noRef_sl,Bool.and_true,Bool.true_and]
    rw [atG_nr 1 91 _ (by simp only [noRefs_cons,noRefs_nil,noRef_val,noRef_kp,noRef_sl,Bool.and_true,Bool.true_and]; rfl)]; rfl
  nx q := prf_nr _ _ _ _
  at0 q := ⟨0,rfl⟩
  inj := fun x y h1 h2 => by
    simp only [List.cons.injEq,Option.some.injEq,C.val.injEq,C.kp.injEq,nI_inj,sl_inj,and_true,true_and] at h1 h2
    have e := atG_inj h1.2.2.2.2.2
    simp only [h1,h2,e,and_self]
  fc q := fc q.1 q.2
theorem look91 (W : A91 → Prop) (fc : ∀ q : A91,W q → F91 gl q) (hp : Nat → List C → Hp → Option (C × Hp)) (q : A91) (hq : W q) (pre suf : Hp) (h0 : OkH pre) (h1 : OkH suf) :
    (s91 W fc).tab hp 91 [.val (nI q.a),.val (nI q.b),.kp [.val (nI q.f)],.kp [.val (nI q.e)],.bp pre.length 0,.kp [sl eC .no q.l],atG 91 [.kp [.val (nI q.f)],.kp [.val (nI q.e)],.bp pre.length 0,.kp [sl eC .no q.l]] q.d] (pre ++ ([some [.val (nI q.f),.val (nI q.z),sl eC .no q.lv,sl dC (.own 16) q.S]] ++ suf)) = some (.tup [],pre ++ ([some [.val (nI q.f),.val (nI q.z),sl eC .no q.lv,sl dC (.own 16) (q.S ++ sdsT q.l q.f q.e q.d q.a q.b)]] ++ suf)) := by
  have h := Small.look (s91 W fc) hp ⟨q,hq⟩ pre suf h0 h1
  simpa only [s91,atG_bk,List.length_nil,Nat.zero_add,Nat.add_zero,bkCs,bkC,bks_cl,bk_sl,shH_cons,shH_nil,Option.map_some,List.map_cons,List.map_nil,List.nil_append,List.cons_append] using h
theorem fc91 (hcx : CxOK (cxP gl M pu)) (hnr : ∀ (g : Nat) (xs : List C),noRefs 0 xs = false → pu g xs = none) (h51 : ∀ l : List Leaf,OkL l → 0 < l.length → pu 51 [sl eC .no l] = some (.agg (cl bC (digT l)))) (h81 : ∀ x y : Nat,x ≤ y ∧ y ≤ 4611686018427387000 → pu 81 [.val (nI x),.val (nI y)] = some (.val (nI (x + halfT (y - x))))) : ∀ (d : Nat) (q : A91),q.d = d → F91 gl q
  | 0,⟨l,f,e,z,lv,S,d,a,b,hk⟩,hd => by
    obtain rfl : d = 0 := hd
    obtain ⟨k1,k2,k3,k4,k5⟩ := hk
    exact fc91z (hcx := toR hcx M) (l := l) (f := f) (e := e) (z := z) (lv := lv) (S := S) (d := 0) (a := a) (b := b) (hl := k1) (hf := k2) (hab := k5) (hS := k3) (hd := k4) (hz := .inr (.inr k5.2.2)) (hnr := hnr) (h51 := h51)
  | d + 1,⟨l,f,e,z,lv,S,d',a,b,hk⟩,hd => by
    obtain rfl : d' = d + 1 := hd
    obtain ⟨k1,k2,k3,k4,k5⟩ := hk
    by_cases hz : b ≤ f ∨ e ≤ a ∨ b - a ≤ 1
    · exact fc91z (hcx := toR hcx M) (l := l) (f := f) (e := e) (z := z) (lv := lv) (S := S) (d := d + 1) (a := a) (b := b) (hl := k1) (hf := k2) (hab := k5) (hS := k3) (hd := k4) (hz := hz) (hnr := hnr) (h51 := h51)
    · have F := fc91 hcx hnr h51 h81 d
      exact fc91s (hcx := CxOK.sm (M := M) (toR hcx M) ⟨_,Tryd.func91,rfl,rfl⟩ (s91 (fun q => q.d = d) F)) (l := l) (f := f) (e := e) (z := z) (lv := lv) (S := S) (d := d) (a := a) (b := b) (hl := k1) (hf := k2) (hab := k5) (hS := k3) (hd := k4)
        (hq91 := fun S a b h1 h2 => by
          have h := look91 (fun q => q.d = d) F (fun _ _ _ => none) ⟨l,f,e,z,lv,S,d,a,b,k1,k2,h1,by omega,h2⟩ rfl [] [] OkH.nil OkH.nil
          simpa only [List.length_nil,List.nil_append,List.append_nil] using h)
        (hz1 := by omega) (hz2 := by omega) (hz3 := by omega) (hnr := hnr) (hn91 := fun xs h => Small.never _ _ xs h) (h81 := h81)
theorem fc57' (hcx : CxOK (cxP gl M pu)) (hnr : ∀ (g : Nat) (xs : List C),noRefs 0 xs = false → pu g xs = none) (h63 : ∀ l : List Leaf,l.length ≤ 1000000 → pu 63 [sl eC .no l] = some (sl eC (.own 2) l)) (h51 : ∀ l : List Leaf,OkL l → 0 < l.length → pu 51 [sl eC .no l] = some (.agg (cl bC (digT l)))) (h81 : ∀ x y : Nat,x ≤ y ∧ y ≤ 4611686018427387000 → pu 81 [.val (nI x),.val (nI y)] = some (.val (nI (x + halfT (y - x))))) (l : List Leaf) (f e : Nat) (hl : OkL l) (hfe : f ≤ e ∧ e ≤ l.length) :
    FC Tryd.prog gl 57 [sl eC .no l,.val (nI f),.val (nI e)] [] (.agg [.val (nI f),.val (nI l.length),sl eC .no ((l.drop f).take (e - f)),sl dC .no (shdT l f e)]) [] := by
  have F : ∀ q : A91,True → F91 gl q := fun q _ => fc91 hcx hnr h51 h81 q.d q rfl
  exact fc57 (hcx := CxOK.sm (M := M) (toR hcx M) ⟨_,Tryd.func91,rfl,rfl⟩ (s91 (fun _ => True) F)) (hnr := hnr) (h63 := h63) (hn91 := fun xs h => Small.never _ _ xs h)
    (hq91 := fun pre suf l f e z lv S d a b h0 h1 h2 h3 h4 h5 h6 => look91 _ F _ ⟨l,f,e,z,lv,S,d,a,b,h2,h3,h4,h5,h6⟩ True.intro pre suf h0 h1) (l := l) (f := f) (e := e) (hl := hl) (hfe := hfe)
structure A93 where
  (l : List Leaf) (f z : Nat) (S0 : List Dig) (st : US) (d a b : Nat)
  ok : OkL l ∧ f ≤ 5000 ∧ st.2.length ≤ 1000000 ∧ a < b ∧ b ≤ 5000 ∧ b - a ≤ 2 ^ d
abbrev F93 (gl : Nat → C) (q : A93) : Prop := FC Tryd.prog gl 93 [.val (nI q.a),.val (nI q.b),.bp 0 0,.kp [.val (nI q.f),.val (nI q.z),sl eC .no q.l,sl dC .no q.S0],.kp [.val (nI (q.f + q.l.length))],.bp 1 0,atG 93 [.bp 0 0,.kp [.val (nI q.f),.val (nI q.z),sl eC .no q.l,sl dC .no q.S0],.kp [.val (nI (q.f + q.l.length))],.bp 1 0] q.d] [some [.val (.bool q.st.1)],some [sl dC .no q.st.2]] (.agg (cl bC (unO q.l q.f q.d q.a q.b q.st).1)) [some [.val (.bool (unO q.l q.f q.d q.a q.b q.st).2.1)],some [sl dC .no (unO q.l q.f q.d q.a q.b q.st).2.2]]
def s93 (W : A93 → Prop) (fc : ∀ q : A93,W q → F93 gl q) : Small Tryd.prog gl 93 {q : A93 // W q} where
  k := 2
  j := 2
  args q := [.val (nI q.1.a),.val (nI q.1.b),.bp 0 0,.kp [.val (nI q.1.f),.val (nI q.1.z),sl eC .no q.1.l,sl dC .no q.1.S0],.kp [.val (nI (q.1.f + q.1.l.length))],.bp 1 0,atG 93 [.bp 0 0,.kp [.val (nI q.1.f),.val (nI q.1.z),sl eC .no q.1.l,sl dC .no q.1.S0],.kp [.val (nI (q.1.f + q.1.l.length))],.bp 1 0] q.1.d]
  X q := [some [.val (.bool q.1.st.1)],some [sl dC .no q.1.st.2]]
  r q := .agg (cl bC (unO q.1.l q.1.f q.1.d q.1.a q.1.b q.1.st).1)
  Y q := [some [.val (.bool (unO q.1.l q.1.f q.1.d q.1.a q.1.b q.1.st).2.1)],some [sl dC .no (unO q.1.l q.1.f q.1.d q.1.a q.1.b q.1.st).2.2]]
  k0 := by decide
  hk _ := rfl
  hy _ := rfl
  al q := fun o h => by
    rcases List.mem_cons.1 h with h | h
    · rw [h]; rfl
    · rw [List.mem_singleton.1 h]; rfl
  nr q := by
    simp only [noRefs_cons,noRefs_nil,noRef_val,noRef_kp,noRef_sl,Bool.and_true,Bool.true_and]
    rw [atG_nr 2 93 _ (by simp only [noRefs_cons,noRefs_nil,noRef_val,noRef_kp,noRef_sl,Bool.and_true,Bool.true_and]; rfl)]; rfl
  nx q := und_nr _ _
  at0 q := ⟨0,rfl⟩
  inj := fun x y h1 h2 => by
    simp only [List.cons.injEq,Option.some.injEq,C.val.injEq,C.kp.injEq,Value.bool.injEq,nI_inj,sl_inj,and_true,true_and] at h1 h2
    have e := atG_inj h1.2.2.2.2
    have e2 : x.1.st = y.1.st := Prod.ext h2.1 h2.2
    simp only [h1,e2,e,and_self]
  fc q := fc q.1 q.2
theorem look93 (W : A93 → Prop) (fc : ∀ q : A93,W q → F93 gl q) (hp : Nat → List C → Hp → Option (C × Hp)) (q : A93) (hq : W q) (suf : Hp) (h1 : OkH suf) :
    (s93 W fc).tab hp 93 [.val (nI q.a),.val (nI q.b),.bp 0 0,.kp [.val (nI q.f),.val (nI q.z),sl eC .no q.l,sl dC .no q.S0],.kp [.val (nI (q.f + q.l.length))],.bp 1 0,atG 93 [.bp 0 0,.kp [.val (nI q.f),.val (nI q.z),sl eC .no q.l,sl dC .no q.S0],.kp [.val (nI (q.f + q.l.length))],.bp 1 0] q.d] ([some [.val (.bool q.st.1)],some [sl dC .no q.st.2]] ++ suf) = some (.agg (cl bC (unO q.l q.f q.d q.a q.b q.st).1),[some [.val (.bool (unO q.l q.f q.d q.a q.b q.st).2.1)],some [sl dC .no (unO q.l q.f q.d q.a q.b q.st).2.2]] ++ suf) := by
  have h := Small.look (s93 W fc) hp ⟨q,hq⟩ [] suf OkH.nil h1
  simpa only [s93,atG_bk,List.length_nil,Nat.zero_add,Nat.add_zero,bkCs,bkC,bks_cl,bk_sl,shH_cons,shH_nil,Option.map_some,List.map_cons,List.map_nil,List.nil_append,List.cons_append] using h
theorem fc93 (hcx : CxOK (cxP gl M pu)) (hnr : ∀ (g : Nat) (xs : List C),noRefs 0 xs = false → pu g xs = none) (h80 : ∀ x : Leaf,x.1.length ≤ 65536 ∧ x.2.length ≤ 65536 → pu 80 [.agg (eC x)] = some (.agg (cl bC (lefT x)))) (h81 : ∀ x y : Nat,x ≤ y ∧ y ≤ 4611686018427387000 → pu 81 [.val (nI x),.val (nI y)] = some (.val (nI (x + halfT (y - x))))) (h82 : ∀ a b : List UInt8,a.length = 16 → b.length = 16 → pu 82 [.agg (cl bC a),.agg (cl bC b)] = some (.agg (cl bC (nodT a b)))) : ∀ (d : Nat) (q : A93),q.d = d → F93 gl q
  | 0,⟨l,f,z,S0,st,d,a,b,hk⟩,hd => by
    obtain rfl : d = 0 := hd
    obtain ⟨k1,k2,k3,k4⟩ := hk
    exact fc93z (hcx := toR hcx M) (l := l) (f := f) (z := z) (S0 := S0) (st := st) (d := 0) (a := a) (b := b) (hl := k1) (hf := k2) (hS := k3) (hab := k4) (hz := .inr (.inr (.inr k4.2.2))) (hnr := hnr) (h80 := h80)
  | d + 1,⟨l,f,z,S0,st,d',a,b,hk⟩,hd => by
    obtain rfl : d' = d + 1 := hd
    obtain ⟨k1,k2,k3,k4⟩ := hk
    by_cases hz : st.1 = false ∨ b ≤ f ∨ f + l.length ≤ a ∨ b - a ≤ 1
    · exact fc93z (hcx := toR hcx M) (l := l) (f := f) (z := z) (S0 := S0) (st := st) (d := d + 1) (a := a) (b := b) (hl := k1) (hf := k2) (hS := k3) (hab := k4) (hz := hz) (hnr := hnr) (h80 := h80)
    · have F := fc93 hcx hnr h80 h81 h82 d
      have hst : st.1 = true := by
        cases h : st.1 with
        | true => rfl
        | false => exact (hz (.inl h)).elim
      exact fc93s (hcx := CxOK.sm (M := M) (toR hcx M) ⟨_,Tryd.func93,rfl,rfl⟩ (s93 (fun q => q.d = d) F)) (l := l) (f := f) (z := z) (S0 := S0) (st := st) (d := d) (a := a) (b := b) (hl := k1) (hf := k2) (hS := k3) (hab := k4)
        (hq93 := fun suf st a b h1 h2 h3 => look93 (fun q => q.d = d) F _ ⟨l,f,z,S0,st,d,a,b,k1,k2,h2,h3⟩ rfl suf h1)
        (hz0 := hst) (hz1 := by omega) (hz2 := by omega) (hz3 := by omega) (hnr := hnr) (h81 := h81) (h82 := h82)
theorem fc61' (hcx : CxOK (cxP gl M pu)) (hnr : ∀ (g : Nat) (xs : List C),noRefs 0 xs = false → pu g xs = none) (h15 : ∀ l : List Leaf,LB l → pu 15 [sl eC .no l] = some (.val (nI (valT l)))) (h50 : ∀ (n : Nat) (d : List UInt8),n ≤ 4096 → d.length = 16 → pu 50 [.val (nI n),.agg (cl bC d)] = some (.agg (cl bC (rotT n d)))) (h80 : ∀ x : Leaf,x.1.length ≤ 65536 ∧ x.2.length ≤ 65536 → pu 80 [.agg (eC x)] = some (.agg (cl bC (lefT x)))) (h81 : ∀ x y : Nat,x ≤ y ∧ y ≤ 4611686018427387000 → pu 81 [.val (nI x),.val (nI y)] = some (.val (nI (x + halfT (y - x))))) (h82 : ∀ a b : List UInt8,a.length = 16 → b.length = 16 → pu 82 [.agg (cl bC a),.agg (cl bC b)] = some (.agg (cl bC (nodT a b))))
    (r : List UInt8) (f z : Int) (l : List Leaf) (S : List Dig) (hr : r.length = 16) (hf : -9223372036854775808 ≤ f ∧ f ≤ 9223372036854775807) (hz : -9223372036854775808 ≤ z ∧ z ≤ 9223372036854775807) (hl : LB l) (hS : S.length ≤ 1000000) :
    FC Tryd.prog gl 61 [.agg [.val (.int .i64 f),.val (.int .i64 z),sl eC .no l,sl dC .no S],.agg (cl bC r)] [] (.val (.bool (undT r f z l S))) [] := by
  have F : ∀ q : A93,True → F93 gl q := fun q _ => fc93 hcx hnr h80 h81 h82 q.d q rfl
  exact fc61 (hcx := CxOK.sm (M := M) (toR hcx M) ⟨_,Tryd.func93,rfl,rfl⟩ (s93 (fun _ => True) F)) (hnr := hnr) (h15 := h15) (h50 := h50)
    (hq93 := fun suf l f z S0 st d a b h1 h2 h3 h4 h5 => look93 _ F _ ⟨l,f,z,S0,st,d,a,b,h2,h3,h4,h5⟩ True.intro suf h1) (r := r) (f := f) (z := z) (l := l) (S := S) (hr := hr) (hf := hf) (hz := hz) (hl := hl) (hS := hS)
theorem fc63 (hcx : CxOK (cxP gl M pu)) (l : List Leaf) (hl : l.length ≤ 1000000) : FC Tryd.prog gl 63 [sl eC .no l] [] (sl eC (.own 2) l) [] := by
  by_cases h : l = []
  · subst h
    refine FC.ofNil (pre := []) (post := []) ⟨_,Tryd.func63,rfl,rfl⟩ fun a cap hc => ?_
    cases a with
    | none => exact fc63b hcx cap hc
    | some x => exact fc63c hcx x cap hc
  · exact fc63a hcx l hl h
theorem noRef_fnM (k f : Nat) (xs : List C) : noRef k (.fn f xs) = noRefs k xs := rfl
theorem noRef_eC (k : Nat) (x : Leaf) : noRefs k (eC x) = true := rfl
theorem atG_nr79 (k : Nat) (l : List Leaf) (d : Nat) : noRef k (atG 79 [.kp [sl eC .no l]] d) = true := atG_nr k 79 _ (by simp only [noRefs_cons,noRefs_nil,noRef_kp,noRef_sl,Bool.and_self]) d
theorem fc90' (hcx : CxOK (cxP gl M pu)) (a b : List UInt8) : FC Tryd.prog gl 90 [.val (str a),.val (str b)] [] (.val (.int .i64 (cmpB a b))) [] := fc90 a b
theorem fc39 (hcx : CxOK (cxP gl M pu)) (n : Int) (hn : -9223372036854775808 ≤ n ∧ n ≤ 9223372036854775807) : FC Tryd.prog gl 39 [.val (.int .i64 n)] [] (sl bC (.own 1) (wint n)) [] := by
  by_cases h : 0 ≤ n
  · obtain ⟨m,rfl⟩ : ∃ m : Nat,n = (m : Int) := ⟨n.toNat,by omega⟩
    rw [wint_pos]; exact fc39p hcx m (by omega)
  · obtain ⟨m,rfl⟩ : ∃ m : Nat,n = -1 - (m : Int) := ⟨(-1 - n).toNat,by omega⟩
    rw [wint_neg _ (le_len 8 m (by omega))]; exact fc39n hcx m (by omega)
theorem fc83 (hcx : CxOK (cxP gl M pu)) (n : Int) (hn : -9223372036854775808 ≤ n ∧ n ≤ 9223372036854775807) : FC Tryd.prog gl 83 [.val (.int .i64 n)] [] (sl bC (.own 1) (wint n)) [] := by
  by_cases h : 0 ≤ n
  · obtain ⟨m,rfl⟩ : ∃ m : Nat,n = (m : Int) := ⟨n.toNat,by omega⟩
    rw [wint_pos]; exact fc83p hcx m (by omega)
  · obtain ⟨m,rfl⟩ : ∃ m : Nat,n = -1 - (m : Int) := ⟨(-1 - n).toNat,by omega⟩
    rw [wint_neg _ (le_len 8 m (by omega))]; exact fc83n hcx m (by omega)
end
end Go.Sx
namespace Go.Sx
open Go.RowKit Go.Proofs
theorem from_b {l : List Leaf} {k : List UInt8} (hs : Srt l) {j : Nat} (hj : j < l.length) : (bl (gt l j).1 k = true) = (j < fromT l k) := by
  apply propext
  constructor
  · exact from_lt hs hj
  · intro h
    cases e : bl (gt l j).1 k with
    | true => rfl
    | false => have := from_ge hs hj e; omega
def isT (l : List Leaf) (k : List UInt8) : Prop := fromT l k < l.length ∧ (gt l (fromT l k)).1 = k
instance (l : List Leaf) (k : List UInt8) : Decidable (isT l k) := inferInstanceAs (Decidable (_ ∧ _))
theorem hasI_is {l : List Leaf} {k : List UInt8} (hs : Srt l) : hasI l k = if isT l k then ((fromT l k : Nat) : Int) else -1 := by
  have h := has_from (k := k) hs
  by_cases hi : isT l k
  · rw [if_pos hi]
    have h0 : ((0 : Nat) : Int) ≤ hasI l k := by rw [h]; exact hi
    unfold hasI at h0 ⊢
    cases hh : hasT l k with
    | none => rw [hh] at h0; simp at h0
    | some n =>
      unfold hasT at hh
      rw [List.findIdx?_eq_some_iff_getElem] at hh
      obtain ⟨h1,h2,_⟩ := hh
      have e : gt l n = l[n] := by simp [gt,List.getD,List.getElem?_eq_getElem h1]
      have hk : (gt l n).1 = k := by rw [e]; simpa using h2
      rw [from_at hs h1 hk]; rfl
  · rw [if_neg hi]
    have h0 : ¬ ((0 : Nat) : Int) ≤ hasI l k := by rw [h]; exact hi
    unfold hasI at h0 ⊢
    cases hh : hasT l k with
    | none => rfl
    | some n => rw [hh] at h0; simp at h0
theorem ins_at {l : List Leaf} (hs : Srt l) (x y : List UInt8) : ∀ i,i ≤ l.length → insT l x y i = (l.take (min i (fromT l y))).drop (fromT l x)
  | 0,_ => by simp [insT]
  | i + 1,h => by
    have ih := ins_at hs x y i (by omega)
    have hl : (l.take i).length = i := by rw [List.length_take]; omega
    by_cases h1 : i < fromT l x
    · rw [← ins_F (by omega) (.inl (by rw [from_b hs (by omega)]; exact h1)),ih,List.drop_of_length_le (by rw [List.length_take]; omega),List.drop_of_length_le (by rw [List.length_take]; omega)]
    · have hx : bl (gt l i).1 x = false := by
        cases e : bl (gt l i).1 x with
        | false => rfl
        | true => rw [from_b hs (by omega)] at e; exact (h1 e).elim
      by_cases h2 : i < fromT l y
      · rw [← ins_T (by omega) hx (by rw [from_b hs (by omega)]; exact h2),ih,Nat.min_eq_left (by omega),Nat.min_eq_left (by omega),take_snoc l i (by omega),List.drop_append_of_le_length (by omega)]
      · have hy : bl (gt l i).1 y = false := by
          cases e : bl (gt l i).1 y with
          | false => rfl
          | true => rw [from_b hs (by omega)] at e; exact (h2 e).elim
        rw [← ins_F (by omega) (.inr hy),ih,show min (i + 1) (fromT l y) = min i (fromT l y) by omega]
theorem keyT_up : ∀ n,n < 60 → bl (keyT n) (keyT (n + 1)) = true := by decide +kernel
theorem keyT_lt {m : Nat} : ∀ d,m + 1 + d ≤ 60 → bl (keyT m) (keyT (m + 1 + d)) = true
  | 0,h => keyT_up m (by omega)
  | d + 1,h => bl_trans (keyT_lt d (by omega)) (keyT_up _ (by omega))
theorem lvsR_key (l : List Int) : ∀ n,n ≤ 11 → ∀ i,i < n → ∃ m,(gt (lvsR l n).1 i).1 = keyT m ∧ m < (lvsR l n).2 ∧ (∀ j,i < j → j < n → ∃ m',(gt (lvsR l n).1 j).1 = keyT m' ∧ m < m' ∧ m' < (lvsR l n).2)
  | 0,_,i,h => by omega
  | n + 1,hn,i,h => by
    have hl := lvsR_len l n
    have g : ∀ j,j < n → gt (lvsR l (n + 1)).1 j = gt (lvsR l n).1 j := fun j hj => by simp only [lvsR]; exact gt_left _ _ _ (by omega)
    have gn : (gt (lvsR l (n + 1)).1 n).1 = keyT ((lvsR l n).2 + atI l (2 * n) 3) := by simp only [lvsR]; rw [gt_mid _ _ _ _ hl]
    have e2 : (lvsR l (n + 1)).2 = (lvsR l n).2 + atI l (2 * n) 3 + 1 := rfl
    by_cases e : i < n
    · obtain ⟨m,h1,h2,h3⟩ := lvsR_key l n (by omega) i e
      refine ⟨m,by rw [g i e]; exact h1,by omega,fun j hj hj2 => ?_⟩
      by_cases ej : j < n
      · obtain ⟨m',q1,q2,q3⟩ := h3 j hj ej
        exact ⟨m',by rw [g j ej]; exact q1,q2,by omega⟩
      · obtain rfl : j = n := by omega
        exact ⟨_,gn,by omega,by omega⟩
    · obtain rfl : i = n := by omega
      exact ⟨_,gn,by omega,fun j hj hj2 => by omega⟩
theorem incT_of {l : List Leaf} (hs : Srt l) : ∀ n,n ≤ l.length → incT l n = true
  | 0,_ => rfl
  | i + 1,h => by
    simp only [incT,Bool.and_eq_true,Bool.or_eq_true,decide_eq_true_eq]
    refine ⟨incT_of hs i (by omega),?_⟩
    by_cases e : i = 0
    · exact .inl e
    · exact .inr (hs _ _ (by omega) (by omega))
theorem lvs_val (l : List Int) : valT (lvsT l) = 0 := by
  have hb := lvs_lb l
  have hn := lvsN_le l
  have hs : Srt (lvsT l) := fun i j hij hj => by
    unfold lvsT at hj ⊢
    rw [lvsR_len] at hj
    obtain ⟨m,h1,_,h3⟩ := lvsR_key l (lvsN l) hn i (by omega)
    obtain ⟨m',q1,q2,q3⟩ := h3 j hij hj
    have := lvsR_at l (lvsN l)
    rw [h1,q1]
    obtain ⟨d,rfl⟩ : ∃ d,m' = m + 1 + d := ⟨m' - m - 1,by omega⟩
    exact keyT_lt d (by omega)
  refine valT_0 ?_ (incT_of hs _ (Nat.le_refl _))
  rintro (h | h)
  · omega
  · rw [List.any_eq_true] at h
    obtain ⟨x,hx,h⟩ := h
    obtain ⟨i,hi,rfl⟩ := List.getElem_of_mem hx
    have := hb.2 i hi
    have e : gt (lvsT l) i = (lvsT l)[i] := by simp [gt,List.getD,List.getElem?_eq_getElem hi]
    rw [e] at this
    unfold bigE at h
    simp only [Bool.or_eq_true,decide_eq_true_eq] at h
    omega
end Go.Sx
namespace Go.Sx
open Go.RowKit Go.Proofs
set_option maxRecDepth 100000
set_option maxHeartbeats 8000000
theorem und_go {r : List UInt8} {f z : Nat} {l : List Leaf} {S : List Dig} (h : ¬ BadU f z l) (h2 : ¬ (0 < z ∧ l.length = 0)) :
    undT r f z l S = (!(rooR l f S z ([],0,false)).2.2.2 && decide ((rooR l f S z ([],0,false)).2.2.1 = S.length) && decide ((rooR l f S z ([],0,false)).1 = r)) := by
  unfold undT
  rw [if_neg (fun q => q.elim h (fun q => h2 ⟨by omega,q.2⟩))]
  rfl
theorem X_fc62 {p : Prop} (e : p := by intro KZ hZ; simp -implicitDefEqProofs (disch := first | omega | (simp only [go_sem,lA,lD,lT,hr,hrl] <;> omega) | decide) only [go_sem,↓reduceIte,Nat.reduceEqDiff,reduceCtorEq,Nat.reduceLT,Nat.reduceBEq,Nat.reduceAdd,int_nI',e16,ep52,en52,eq_self,decide_true,decide_false,not_true_eq_false,not_false_eq_true,b1,b2,b3,b4,b5,b6,d1,d2,c1,c2,hy]; with_reducible exact hZ) : p := e
theorem Y_fc62 {p : Prop} (e : p := by intro KZ hZ; simp -implicitDefEqProofs (disch := first | omega | (simp only [go_sem,lA,lD,lT,hr,hrl] <;> omega) | decide) only [go_sem,↓reduceIte,Nat.reduceEqDiff,reduceCtorEq,Nat.reduceLT,Nat.reduceBEq,Nat.reduceAdd,int_nI',e16,ep52,en52,eq_self,decide_true,decide_false,not_true_eq_false,not_false_eq_true,b1,b2,b3,b4,b5,b6,d1,d2,c1,c2,hy]; with_reducible refine And.intro ?_ hZ; first | exact rfl | decide) : p := e
theorem F_fc62 {p : Prop} (e : p := by simp -implicitDefEqProofs (disch := first | omega | (simp only [go_sem,lA,lD,lT,hr,hrl] <;> omega) | decide) only [go_sem,↓reduceIte,Nat.reduceEqDiff,reduceCtorEq]; all_goals (first | (rw [hR]; done) | (rw [hR]; simp [c1,c2]; done) | (rw [hR]; simp [c1]; done))) : p := e
theorem fc62 {gl : Nat → C} {M0 : Nat} {pu : Nat → List C → Option C} {hp : Nat → List C → Hp → Option (C × Hp)} (hcx : CxOK (cxR gl M0 pu hp)) (r : List UInt8) (f z : Int) (l : List Leaf) (S : List Dig) (hr : r.length = 16) (hf : -9223372036854775808 ≤ f ∧ f ≤ 9223372036854775807) (hz : -9223372036854775808 ≤ z ∧ z ≤ 9223372036854775807) (hl : LB l) (hS : S.length ≤ 1000000) (hnr : ∀ (g : Nat) (xs : List C),noRefs 0 xs = false → pu g xs = none) (h16 : ∀ l : List Leaf,LB l → pu 16 [sl eC .no l] = some (.val (nI (valT l)))) (hn52 : ∀ xs : List C,(∃ b o,C.bp b o ∈ xs) → hp 52 xs [] = some (.top,[])) (hq52 : ∀ (pre suf : Hp) (l : List Leaf) (f : Nat) (S : List Dig) (n : Nat) (T : List (List UInt8)) (u : Nat) (sh : Bool),OkH pre → OkH suf → LZ l → f ≤ 5000 → S.length ≤ 1000000 → u ≤ S.length → T.length ≤ 800000 → n ≤ 4096 → hp 52 [.bp pre.length 0,sl eC .no l,.val (nI f),.val (nI n)] (pre ++ ([some [sl sC (.own 1) (T),sl dC .no S,.val (nI (u)),.val (.bool (sh))]] ++ suf)) = some (.agg (cl bC (rooR l f S n (T,u,sh)).1),pre ++ ([some [sl sC (.own 1) ((rooR l f S n (T,u,sh)).2.1),sl dC .no S,.val (nI ((rooR l f S n (T,u,sh)).2.2.1)),.val (.bool ((rooR l f S n (T,u,sh)).2.2.2))]] ++ suf))) : FC Tryd.prog gl 62 [.agg (cl bC r),.agg [.val (.int .i64 f),.val (.int .i64 z),sl eC .no l,sl dC .no S]] [] (.val (.bool (undT r f z l S))) [] := by
 replace hcx := hcx.reN (M := 85)
 refine FC.ofA (cx := cxR gl 85 pu hp) (rs := [.tmp 4]) rfl Tryd.func62 rfl rfl rfl (by simp only [List.length_cons,List.length_nil]; decide) (by simp only [go_sem]) ?_
 simp only [ini,go_sem]
 have b1 := True.intro
 have b2 := True.intro
 have b3 := True.intro
 have b4 := True.intro
 have b5 := True.intro
 have b6 := True.intro
 have d1 := True.intro
 have d2 := True.intro
 have c1 := True.intro
 have c2 := True.intro
 have hy := True.intro
 have e16 := h16 l hl
 have hl1 := hl.1
 have hrl := True.intro
 have en52 : ∀ x y : Nat,hp 52 [.bp 2 0,sl eC .no l,.val (nI x),.val (nI y)] [] = some (.top,[]) := fun x y => hn52 _ ⟨2,0,by simp⟩
 have ep52 : ∀ x y : Nat,pu 52 [.bp 2 0,sl eC .no l,.val (nI x),.val (nI y)] = none := fun x y => hnr 52 _ rfl
 refine Tr.w hcx [] _ [none,none] rfl rfl rfl ?_ X_fc62
 refine Tr.k [2,3] ?_
 refine Tr.seqK fun K1 hK1 => ?_
 by_cases b1 : z < ((0 : Nat) : Int)
 ·
  have hB : BadU f z l := Or.inl (by omega)
  refine Tr.w hcx [] [some 7,some 8,some 9,some 10,some 11,some 12,some 13,some 14,some 15,some 16,some 17,some 18,some 19,some 20,some 21,some 22,some 23,some 24,some 25,some 26,some 27,some 28,some 29,some 30,some 31,some 32,some 33,some 34,some 35,some 36,some 37,some 38,some 39,some 40,some 41,some 42,some 43] [] rfl rfl rfl ?_ X_fc62
  refine Tr.k [2,3,43] ?_
  refine Tr.cT rfl ?_
  have hR := und_1 (r := r) (S := S) (Or.inl hB)
  refine Tr.w hcx [] _ [] rfl rfl rfl ?_ X_fc62
  exact Tr.ret F_fc62
 skip
 by_cases b2 : ((4096 : Nat) : Int) < z
 ·
  have hB : BadU f z l := Or.inr (Or.inl (by omega))
  refine Tr.w hcx [] [some 7,some 8,some 9,some 10,some 11,some 12,some 13,some 14,some 15,some 16,some 17,some 18,some 19,some 20,some 21,some 22,some 23,some 24,some 25,some 26,some 27,some 28,some 29,some 30,some 31,some 32,some 33,some 34,some 35,some 36,some 37,some 38,some 39,some 40,some 41,some 42,some 43] [] rfl rfl rfl ?_ X_fc62
  refine Tr.k [2,3,43] ?_
  refine Tr.cT rfl ?_
  have hR := und_1 (r := r) (S := S) (Or.inl hB)
  refine Tr.w hcx [] _ [] rfl rfl rfl ?_ X_fc62
  exact Tr.ret F_fc62
 skip
 by_cases b3 : f < ((0 : Nat) : Int)
 ·
  have hB : BadU f z l := Or.inr (Or.inr (Or.inl (by omega)))
  refine Tr.w hcx [] [some 7,some 8,some 9,some 10,some 11,some 12,some 13,some 14,some 15,some 16,some 17,some 18,some 19,some 20,some 21,some 22,some 23,some 24,some 25,some 26,some 27,some 28,some 29,some 30,some 31,some 32,some 33,some 34,some 35,some 36,some 37,some 38,some 39,some 40,some 41,some 42,some 43] [] rfl rfl rfl ?_ X_fc62
  refine Tr.k [2,3,43] ?_
  refine Tr.cT rfl ?_
  have hR := und_1 (r := r) (S := S) (Or.inl hB)
  refine Tr.w hcx [] _ [] rfl rfl rfl ?_ X_fc62
  exact Tr.ret F_fc62
 skip
 by_cases b4 : z < f
 ·
  have hB : BadU f z l := Or.inr (Or.inr (Or.inr (Or.inl b4)))
  refine Tr.w hcx [] [some 7,some 8,some 9,some 10,some 11,some 12,some 13,some 14,some 15,some 16,some 17,some 18,some 19,some 20,some 21,some 22,some 23,some 24,some 25,some 26,some 27,some 28,some 29,some 30,some 31,some 32,some 33,some 34,some 35,some 36,some 37,some 38,some 39,some 40,some 41,some 42,some 43] [] rfl rfl rfl ?_ X_fc62
  refine Tr.k [2,3,43] ?_
  refine Tr.cT rfl ?_
  have hR := und_1 (r := r) (S := S) (Or.inl hB)
  refine Tr.w hcx [] _ [] rfl rfl rfl ?_ X_fc62
  exact Tr.ret F_fc62
 skip
 by_cases b5 : z - f < ((l.length : Nat) : Int)
 ·
  have hB : BadU f z l := Or.inr (Or.inr (Or.inr (Or.inr (Or.inl (by omega)))))
  refine Tr.w hcx [] [some 7,some 8,some 9,some 10,some 11,some 12,some 13,some 14,some 15,some 16,some 17,some 18,some 19,some 20,some 21,some 22,some 23,some 24,some 25,some 26,some 27,some 28,some 29,some 30,some 31,some 32,some 33,some 34,some 35,some 36,some 37,some 38,some 39,some 40,some 41,some 42,some 43] [] rfl rfl rfl ?_ X_fc62
  refine Tr.k [2,3,43] ?_
  refine Tr.cT rfl ?_
  have hR := und_1 (r := r) (S := S) (Or.inl hB)
  refine Tr.w hcx [] _ [] rfl rfl rfl ?_ X_fc62
  exact Tr.ret F_fc62
 skip
 by_cases b6 : valT l = 0
 ·
  have hB : ¬ BadU f z l := fun q => by
    unfold BadU at q; omega
  have hok := valT_ok (l := l) (by omega)
  refine Tr.w hcx [] [some 7,some 8,some 9,some 10,some 11,some 12,some 13,some 14,some 15,some 16,some 17,some 18,some 19,some 20,some 21,some 22,some 23,some 24,some 25,some 26,some 27,some 28,some 29,some 30,some 31,some 32,some 33,some 34,some 35,some 36,some 37,some 38,some 39,some 40,some 41,some 42,some 43] [] rfl rfl rfl ?_ X_fc62
  refine Tr.k [2,3,43] ?_
  refine Tr.cF rfl ?_
  refine Tr.skip ?_
  refine hK1 _ ?_
  refine Tr.seqK fun K2 hK2 => ?_
  by_cases d1 : ((0 : Nat) : Int) < z
  ·
   by_cases d2 : l.length = 0
   ·
    obtain ⟨z,rfl⟩ : ∃ n : Nat,z = (n : Int) := ⟨z.toNat,by omega⟩
    obtain ⟨f,rfl⟩ : ∃ n : Nat,f = (n : Int) := ⟨f.toNat,by omega⟩
    have hll := hok.1
    have d3 : (0 < z) = (((0 : Nat) : Int) < ((z : Nat) : Int)) := propext (by omega)
    simp only [d1,iff_false,iff_true] at d3
    have hy := @d3
    refine Tr.w hcx [] [some 44,some 45,some 46,some 47,some 48,some 49,some 50,some 51,some 52] [] rfl rfl rfl ?_ X_fc62
    refine Tr.cT rfl ?_
    have hR := und_1 (r := r) (S := S) (f := f) (z := z) (l := l) (Or.inr ⟨by omega,by omega⟩)
    have hy := True.intro
    refine Tr.w hcx [] _ [] rfl rfl rfl ?_ X_fc62
    exact Tr.ret F_fc62
   obtain ⟨z,rfl⟩ : ∃ n : Nat,z = (n : Int) := ⟨z.toNat,by omega⟩
   obtain ⟨f,rfl⟩ : ∃ n : Nat,f = (n : Int) := ⟨f.toNat,by omega⟩
   have hll := hok.1
   have d3 : (0 < z) = (((0 : Nat) : Int) < ((z : Nat) : Int)) := propext (by omega)
   simp only [d1,iff_false,iff_true] at d3
   have hy := @d3
   refine Tr.w hcx [] [some 44,some 45,some 46,some 47,some 48,some 49,some 50,some 51,some 52] [] rfl rfl rfl ?_ X_fc62
   refine Tr.cF rfl ?_
   refine Tr.skip ?_
   refine hK2 _ ?_
   have hy := True.intro
   refine Tr.w hcx [1000056] _ [none] rfl rfl rfl ?_ X_fc62
   have hR := und_go (r := r) (S := S) hB (by omega)
   refine Tr.bxc 2 0 (sl sC (.own 1) []) _ rfl rfl (CLe_sln rfl) rfl ?_
   have e52 := hq52 [some (cl bC r),some [.val (nI f),.val (nI z),sl eC .no l,sl dC .no S]] [none] l f S z [] 0 false (OkH.cons (okB_cl _) (OkH.cons rfl OkH.nil)) (OkH.cons rfl OkH.nil) hok.lz (by omega) hS (by omega) (by simp) (by omega)
   have hrl := rooR_len l f S z ([],0,false)
   obtain ⟨X,hX⟩ : ∃ X,rooR l f S z ([],0,false) = X := ⟨_,rfl⟩
   rw [hX] at e52 hR hrl
   simp only [List.cons_append,List.nil_append,List.length_cons,List.length_nil,Nat.zero_add] at e52
   have hy := @e52
   refine Tr.w hcx [] _ [none] rfl rfl rfl ?_ X_fc62
   refine Tr.k [2,3,5,6] ?_
   by_cases c1 : X.2.2.2 = true
   ·
    skip
    have hy := @eq23
    refine Tr.wD hcx hMOR [1000084] [some 65,some 66,some 67,some 68,some 69,some 70,some 71,some 72,some 73,some 74,some 75,some 76,some 77,some 78,some 79,some 80,some 81,some 82,some 83,some 84,some 4] [] rfl rfl rfl rfl ?_ Y_fc62
    exact Tr.ret F_fc62
   replace c1 := Bool.eq_false_iff.2 c1
   by_cases c2 : X.2.2.1 = S.length
   ·
    have hy := @eq23
    refine Tr.wD hcx hMOR [1000084] [some 65,some 66,some 67,some 68,some 69,some 70,some 71,some 72,some 73,some 74,some 75,some 76,some 77,some 78,some 79,some 80,some 81,some 82,some 83,some 84,some 4] [] rfl rfl rfl rfl ?_ Y_fc62
    exact Tr.ret F_fc62
   have hy := @eq23
   refine Tr.wD hcx hMOR [1000084] [some 65,some 66,some 67,some 68,some 69,some 70,some 71,some 72,some 73,some 74,some 75,some 76,some 77,some 78,some 79,some 80,some 81,some 82,some 83,some 84,some 4] [] rfl rfl rfl rfl ?_ Y_fc62
   exact Tr.ret F_fc62
  obtain ⟨z,rfl⟩ : ∃ n : Nat,z = (n : Int) := ⟨z.toNat,by omega⟩
  obtain ⟨f,rfl⟩ : ∃ n : Nat,f = (n : Int) := ⟨f.toNat,by omega⟩
  have hll := hok.1
  have d3 : (0 < z) = (((0 : Nat) : Int) < ((z : Nat) : Int)) := propext (by omega)
  simp only [d1,iff_false,iff_true] at d3
  have hy := @d3
  refine Tr.w hcx [] [some 44,some 45,some 46,some 47,some 48,some 49,some 50,some 51,some 52] [] rfl rfl rfl ?_ X_fc62
  refine Tr.cF rfl ?_
  refine Tr.skip ?_
  refine hK2 _ ?_
  have hy := True.intro
  refine Tr.w hcx [1000056] _ [none] rfl rfl rfl ?_ X_fc62
  have hR := und_go (r := r) (S := S) hB (by omega)
  refine Tr.bxc 2 0 (sl sC (.own 1) []) _ rfl rfl (CLe_sln rfl) rfl ?_
  have e52 := hq52 [some (cl bC r),some [.val (nI f),.val (nI z),sl eC .no l,sl dC .no S]] [none] l f S z [] 0 false (OkH.cons (okB_cl _) (OkH.cons rfl OkH.nil)) (OkH.cons rfl OkH.nil) hok.lz (by omega) hS (by omega) (by simp) (by omega)
  have hrl := rooR_len l f S z ([],0,false)
  obtain ⟨X,hX⟩ : ∃ X,rooR l f S z ([],0,false) = X := ⟨_,rfl⟩
  rw [hX] at e52 hR hrl
  simp only [List.cons_append,List.nil_append,List.length_cons,List.length_nil,Nat.zero_add] at e52
  have hy := @e52
  refine Tr.w hcx [] _ [none] rfl rfl rfl ?_ X_fc62
  refine Tr.k [2,3,5,6] ?_
  by_cases c1 : X.2.2.2 = true
  ·
   skip
   have hy := @eq23
   refine Tr.wD hcx hMOR [1000084] [some 65,some 66,some 67,some 68,some 69,some 70,some 71,some 72,some 73,some 74,some 75,some 76,some 77,some 78,some 79,some 80,some 81,some 82,some 83,some 84,some 4] [] rfl rfl rfl rfl ?_ Y_fc62
   exact Tr.ret F_fc62
  replace c1 := Bool.eq_false_iff.2 c1
  by_cases c2 : X.2.2.1 = S.length
  ·
   have hy := @eq23
   refine Tr.wD hcx hMOR [1000084] [some 65,some 66,some 67,some 68,some 69,some 70,some 71,some 72,some 73,some 74,some 75,some 76,some 77,some 78,some 79,some 80,some 81,some 82,some 83,some 84,some 4] [] rfl rfl rfl rfl ?_ Y_fc62
   exact Tr.ret F_fc62
  have hy := @eq23
  refine Tr.wD hcx hMOR [1000084] [some 65,some 66,some 67,some 68,some 69,some 70,some 71,some 72,some 73,some 74,some 75,some 76,some 77,some 78,some 79,some 80,some 81,some 82,some 83,some 84,some 4] [] rfl rfl rfl rfl ?_ Y_fc62
  exact Tr.ret F_fc62
 have hB : BadU f z l := Or.inr (Or.inr (Or.inr (Or.inr (Or.inr b6))))
 refine Tr.w hcx [] [some 7,some 8,some 9,some 10,some 11,some 12,some 13,some 14,some 15,some 16,some 17,some 18,some 19,some 20,some 21,some 22,some 23,some 24,some 25,some 26,some 27,some 28,some 29,some 30,some 31,some 32,some 33,some 34,some 35,some 36,some 37,some 38,some 39,some 40,some 41,some 42,some 43] [] rfl rfl rfl ?_ X_fc62
 refine Tr.k [2,3,43] ?_
 refine Tr.cT rfl ?_
 have hR := und_1 (r := r) (S := S) (Or.inl hB)
 refine Tr.w hcx [] _ [] rfl rfl rfl ?_ X_fc62
 exact Tr.ret F_fc62
end Go.Sx
