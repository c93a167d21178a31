/-
   And what follows.
-/
import Derived.Test.YtcpdlhgkdogdjaaDoorPab
set_option linter.unusedSimpArgs false
set_option linter.unusedVariables false
namespace Go.Sx
open Go.RowKit
section
variable {cx : Cx} {G : Gh} {w : World} {st : St} {a : Act} {o : Oper} {P : Program}
theorem bound?_spec (H : Pre cx G w st a) {x : Option Operand} {dflt most k : Nat} (h : bound? (x.map (cx.evn st.env)) dflt most = some k) :
    (x = none ∧ k = dflt) ∨ ∃ y kd,x = some y ∧ a.eval y = .int kd (k : Int) ∧ k ≤ most := by
  cases x with
  | none => simp [bound?] at h; exact .inl ⟨rfl,h.symm⟩
  | some y =>
    simp only [bound?,Option.map_some] at h
    split at h
    · rename_i kd i hi
      split at h
      · rename_i hb
        cases h
        have := int?_rep hi (H.evn y)
        exact .inr ⟨y,kd,rfl,by rw [this,Int.toNat_of_nonneg hb.1],by omega⟩
      · cases h
    · cases h
theorem run_bounds (isS : Bool) (len cap : Nat) (lo hi : Option Value) (l h' : Nat) (hhi : (hi = none ∧ h' = len) ∨ ∃ kd,hi = some (.int kd (h' : Int)) ∧ h' ≤ cap)
    (hlo : (lo = none ∧ l = 0) ∨ ∃ kd,lo = some (.int kd (l : Int)) ∧ l ≤ h') : (Instr.sliceBounds isS len cap lo hi none).run P w = .ok (l,h',cap) w := by
  unfold Instr.sliceBounds
  rcases hhi with ⟨rfl,rfl⟩ | ⟨kd,rfl,hh⟩ <;> rcases hlo with ⟨rfl,rfl⟩ | ⟨kd',rfl,hl⟩ <;>
    simp [run_sliceBound, *]
theorem run_bounds3 (isS : Bool) (len cap : Nat) (lo hi : Option Value) (l h' m : Nat) (kd : IntKind) (hm : m ≤ cap) (hhi : ∃ kd,hi = some (.int kd (h' : Int)) ∧ h' ≤ m)
    (hlo : (lo = none ∧ l = 0) ∨ ∃ kd,lo = some (.int kd (l : Int)) ∧ l ≤ h') : (Instr.sliceBounds isS len cap lo hi (some (.int kd (m : Int)))).run P w = .ok (l,h',m) w := by
  unfold Instr.sliceBounds
  obtain ⟨kd,rfl,hh⟩ := hhi
  rcases hlo with ⟨rfl,rfl⟩ | ⟨kd',rfl,hl⟩ <;>
    simp [run_sliceBound, *]
theorem addr_add (b o k : Nat) : (⟨b,o,none⟩ : Addr).add k = ⟨b,o + k,none⟩ := Addr.add_mid b o k
theorem asSv_rep {c : C} {v : Value} (h : Rep G c v) : Rep G c.asSv v := by
  unfold C.asSv
  split
  · simp only [Rep] at h ⊢
    obtain ⟨a,cap,h1,h2,h3,h4⟩ := h
    refine ⟨a,cap,h1,h2,h3,fun hn => ?_⟩
    rcases h4 with ⟨h4,_⟩ | ⟨blk,q1,q2,_⟩
    · exact absurd h4 hn
    · exact ⟨blk,q1,q2⟩
  · exact h
theorem slicePlan_ok (H : Pre cx G w st a) {t : TypeId} {x : Operand} {lo hi mx : Option Operand} {p : Plan} {c0 : C} (hx : Rep G c0 (a.eval x))
    (h : slicePlan cx.P t c0 (lo.map (cx.evn st.env)) (hi.map (cx.evn st.env)) (mx.map (cx.evn st.env)) = some p) :
    ∃ c v,p = .val c none ∧ c.noOwn ∧ (Instr.sliceAt t (a.eval x) (lo.map a.eval) (hi.map a.eval) (mx.map a.eval)).run cx.P w = .ok v w ∧ Rep G c v := by
  unfold slicePlan at h
  split at h
  · cases h
  rename_i d hd
  have hu := (td_spec hd).1
  generalize a.eval x = xv at hx
  unfold Instr.sliceAt
  simp only [Sem.run_bind,run_und hd,Result.andThen_ok]
  split at h
  · -- a string
    rename_i s hs
    rw [rep_val] at hx
    subst hx
    rw [hs]
    simp only [Instr.slice,Sem.run_bind,run_und hd,Result.andThen_ok,hs]
    split at h
    · cases h
    rename_i hmx
    have hmx' : mx = none := by cases mx <;> simp at hmx ⊢
    subst hmx'
    split at h
    · rename_i hh hhe
      split at h
      · rename_i ll hle
        cases h
        have b1 := bound?_spec H hhe
        have b2 := bound?_spec H hle
        have hrun := run_bounds (P := cx.P) (w := w) false s.size s.size (lo.map a.eval) (hi.map a.eval) ll hh
          (by rcases b1 with ⟨rfl,rfl⟩ | ⟨y,kd,rfl,e,hl⟩ <;> simp [*])
          (by rcases b2 with ⟨rfl,rfl⟩ | ⟨y,kd,rfl,e,hl⟩ <;> simp [*])
        simp only [Option.map_none,Option.isSome_none,Bool.false_eq_true,if_false,hrun,Result.andThen_ok,Sem.run_pure,Sem.run_bind]
        exact ⟨_,_,rfl,trivial,rfl,rep_val.2 rfl⟩
      · cases h
    · cases h
  · -- a slice of a box
    rename_i e b off n hs
    simp only [Rep] at hx
    obtain ⟨ad,cap,rfl,hnc,hcm,had⟩ := hx
    rw [hs]
    simp only [Instr.slice,Sem.run_bind,run_und hd,Result.andThen_ok,hs]
    split at h
    · rename_i de hde
      split at h
      · cases h
      rename_i hmx
      have hmx' : mx = none := by cases mx <;> simp at hmx ⊢
      subst hmx'
      split at h
      · rename_i hh hhe
        split at h
        · rename_i ll hle
          cases h
          have b1 := bound?_spec H hhe
          have b2 := bound?_spec H hle
          have hhn : hh ≤ n := by rcases b1 with ⟨_,rfl⟩ | ⟨y,kd,_,_,hl⟩ <;> omega
          have hlh : ll ≤ hh := by rcases b2 with ⟨_,rfl⟩ | ⟨y,kd,_,_,hl⟩ <;> omega
          have hrun := run_bounds (P := cx.P) (w := w) true n cap (lo.map a.eval) (hi.map a.eval) ll hh
            (by rcases b1 with ⟨rfl,rfl⟩ | ⟨y,kd,rfl,e,hl⟩ <;> simp [*]; omega)
            (by rcases b2 with ⟨rfl,rfl⟩ | ⟨y,kd,rfl,e,hl⟩ <;> simp [*])
          simp only [Option.map_none,hrun,Result.andThen_ok,Sem.run_pure,run_size hde]
          refine ⟨_,_,rfl,trivial,rfl,?_⟩
          simp only [Rep]
          refine ⟨_,_,rfl,by omega,by omega,fun hne => ?_⟩
          have hcl : cap ≠ ll := by omega
          obtain ⟨blk,hμ,rfl⟩ := had (by omega)
          refine ⟨blk,hμ,?_⟩
          rw [if_neg hcl]
          simp [addr_add]
        · cases h
      · cases h
    · cases h
  · -- a slice
    rename_i e hs hnsv
    split at h
    · rename_i de n xs hde hsl
      obtain ⟨ad,cap,rfl,hnc,hcm,hk⟩ := sl?_rep hsl hx
      rw [hs]
      simp only [Instr.slice,Sem.run_bind,run_und hd,Result.andThen_ok,hs]
      split at h
      · rename_i hlen
        split at h
        · rename_i m hme
          split at h
          · rename_i hh hhe
            split at h
            · rename_i ll hle
              cases h
              have b0 := bound?_spec H hme
              have b1 := bound?_spec H hhe
              have b2 := bound?_spec H hle
              have hlh : ll ≤ hh := by rcases b2 with ⟨_,rfl⟩ | ⟨y,kd,_,_,hl⟩ <;> omega
              have tail : ∀ (m' : Nat),hh ≤ m' → m' ≤ cap → hh ≤ n → ∀ (r : Rt),(r = .full → m' = hh) →
                  Rep G (.sl r (hh - ll) ((xs.drop (ll * de.size)).take ((hh - ll) * de.size))) (.slice (if m' = ll then ad else ad.map (·.add (ll * de.size))) (hh - ll) (m' - ll)) := by
                intro m' q1 q2 q3 r hr
                simp only [Rep]
                refine ⟨_,_,rfl,by omega,by omega,fun e => by have := hr e; omega,?_⟩
                by_cases hz : (xs.drop (ll * de.size)).take ((hh - ll) * de.size) = []
                · exact .inl hz
                · right
                  rcases hk with hk | ⟨blk,off,had,hk⟩
                  · subst hk; simp at hz
                  · have hne : m' ≠ ll := by
                      rintro rfl
                      have : hh - m' = 0 := by omega
                      rw [this] at hz; simp at hz
                    rw [if_neg hne,had]
                    exact ⟨blk,off + ll * de.size,by simp [addr_add],(hk.drop _).take _⟩
              cases mx with
              | none =>
                simp [bound?] at hme
                subst hme
                simp only [Option.map_none,Option.isSome_none,Bool.false_eq_true,if_false] at b1
                have hhn : hh ≤ n := by rcases b1 with ⟨_,rfl⟩ | ⟨y,kd,_,_,hl⟩ <;> omega
                have hrun := run_bounds (P := cx.P) (w := w) true n cap (lo.map a.eval) (hi.map a.eval) ll hh
                  (by rcases b1 with ⟨rfl,e⟩ | ⟨y,kd,rfl,e,hl⟩ <;> simp [*] <;> first | simpa using e | omega)
                  (by rcases b2 with ⟨rfl,rfl⟩ | ⟨y,kd,rfl,e,hl⟩ <;> simp [*])
                simp only [Option.map_none,hrun,Result.andThen_ok,Sem.run_pure,run_size hde]
                refine ⟨_,_,rfl,by simp [C.noOwn],rfl,tail cap (by omega) (Nat.le_refl _) hhn _ (by simp)⟩
              | some my =>
                rcases b0 with ⟨e,_⟩ | ⟨y,kd,e,hmy,hmn⟩
                · cases e
                cases e
                rcases b1 with ⟨rfl,e⟩ | ⟨y,kd',rfl,e,hl⟩
                · -- no high with a max: not in Go
                  simp at hlen
                · have hrun := run_bounds3 (P := cx.P) (w := w) true n cap (lo.map a.eval) (some (a.eval y)) ll hh m kd (by omega) ⟨kd',by rw [e],by simpa using hl⟩
                    (by rcases b2 with ⟨rfl,rfl⟩ | ⟨y,kd,rfl,e,hl⟩ <;> simp [*])
                  simp only [Option.map_some,hmy,hrun,Result.andThen_ok,Sem.run_pure,run_size hde]
                  have hhm : hh ≤ m := by simpa using hl
                  refine ⟨_,_,rfl,?_,rfl,tail m hhm (by omega) (by omega) _ ?_⟩
                  · split <;> simp [C.noOwn]
                  · split
                    · rename_i q; intro _; exact q.2
                    · intro q; cases q
            · cases h
          · cases h
        · cases h
      · cases h
    · cases h
  · -- a box that is an array
    rename_i n e b off hs
    simp only [Rep] at hx
    obtain ⟨blk,hμ,rfl⟩ := hx
    rw [hs]
    simp only [Instr.sureAddr,Sem.run_bind,Sem.run_pure,Result.andThen_ok]
    split at h
    · rename_i de hde
      split at h
      · cases h
      rename_i hmx
      have hmx' : mx = none := by cases mx <;> simp at hmx ⊢
      subst hmx'
      have hn6 : n ≤ 65536 := by simp at hmx; omega
      have hml : (65536 : Nat) ≤ maxLen := by decide
      split at h
      · rename_i hh hhe
        split at h
        · rename_i ll hle
          cases h
          have b1 := bound?_spec H hhe
          have b2 := bound?_spec H hle
          have hhn : hh ≤ n := by rcases b1 with ⟨_,rfl⟩ | ⟨y,kd,_,_,hl⟩ <;> omega
          have hlh : ll ≤ hh := by rcases b2 with ⟨_,rfl⟩ | ⟨y,kd,_,_,hl⟩ <;> omega
          have hrun := run_bounds (P := cx.P) (w := w) false n n (lo.map a.eval) (hi.map a.eval) ll hh
            (by rcases b1 with ⟨rfl,rfl⟩ | ⟨y,kd,rfl,e,hl⟩ <;> simp [*])
            (by rcases b2 with ⟨rfl,rfl⟩ | ⟨y,kd,rfl,e,hl⟩ <;> simp [*])
          simp only [Option.map_none,hrun,Result.andThen_ok,run_size hde]
          refine ⟨_,_,rfl,trivial,rfl,?_⟩
          simp only [Rep]
          refine ⟨_,_,rfl,by omega,by omega,fun hne => ⟨blk,hμ,?_⟩⟩
          have hcl : n ≠ ll := by omega
          rw [if_neg hcl]
          simp [addr_add]
        · cases h
      · cases h
    · cases h
  · -- an array that nobody writes any more
    rename_i n e xs hs
    simp only [Rep] at hx
    obtain ⟨blk,off,rfl,hk⟩ := hx
    rw [hs]
    simp only [Instr.sureAddr,Sem.run_bind,Sem.run_pure,Result.andThen_ok]
    split at h
    · rename_i de hde
      split at h
      · cases h
      rename_i hmx
      have hmx' : mx = none := by cases mx <;> simp at hmx ⊢
      subst hmx'
      have hn6 : n ≤ 65536 := by simp at hmx; omega
      have hml : (65536 : Nat) ≤ maxLen := by decide
      split at h
      · rename_i hh hhe
        split at h
        · rename_i ll hle
          cases h
          have b1 := bound?_spec H hhe
          have b2 := bound?_spec H hle
          have hhn : hh ≤ n := by rcases b1 with ⟨_,rfl⟩ | ⟨y,kd,_,_,hl⟩ <;> omega
          have hlh : ll ≤ hh := by rcases b2 with ⟨_,rfl⟩ | ⟨y,kd,_,_,hl⟩ <;> omega
          have hrun := run_bounds (P := cx.P) (w := w) false n n (lo.map a.eval) (hi.map a.eval) ll hh
            (by rcases b1 with ⟨rfl,rfl⟩ | ⟨y,kd,rfl,e,hl⟩ <;> simp [*])
            (by rcases b2 with ⟨rfl,rfl⟩ | ⟨y,kd,rfl,e,hl⟩ <;> simp [*])
          simp only [Option.map_none,hrun,Result.andThen_ok,run_size hde]
          refine ⟨_,_,rfl,trivial,rfl,?_⟩
          simp only [Rep]
          refine ⟨_,_,rfl,by omega,?_,by simp,?_⟩
          · omega
          · by_cases hz : (xs.drop (ll * de.size)).take ((hh - ll) * de.size) = []
            · exact .inl hz
            · right
              have hcl : n ≠ ll := by
                rintro rfl
                have : hh - n = 0 := by omega
                rw [this] at hz; simp at hz
              rw [if_neg hcl]
              exact ⟨blk,off + ll * de.size,by simp [addr_add],(hk.drop _).take _⟩
        · cases h
      · cases h
    · cases h
  · cases h
theorem indexAddrPlan_ok {t : TypeId} {x i : C} {xv iv : Value} (hx : Rep G x xv) (hi : Rep G i iv) {p : Plan} (h : indexAddrPlan P t x i = some p) :
    ∃ c v,p = .val c none ∧ c.noOwn ∧ (Instr.indexAt t xv iv).run P w = .ok v w ∧ Rep G c v := by
  unfold indexAddrPlan at h
  split at h
  · cases h
  rename_i d hd
  unfold Instr.indexAt
  split at h
  · rename_i n e b off hs
    split at h
    · rename_i de k hde hk
      cases h
      obtain ⟨kd,rfl,hkn⟩ := idx?_spec hk hi
      simp only [Rep] at hx
      obtain ⟨blk,hμ,rfl⟩ := hx
      refine ⟨_,.pointer (some ⟨blk,off + k * de.size,none⟩),rfl,trivial,?_,by simp only [Rep]; exact ⟨blk,hμ,rfl⟩⟩
      simp [asIntOf,run_und hd,hs,Instr.sureAddr,run_size hde,addr_add,hkn]
    · cases h
  · rename_i n e xs hs
    split at h
    · rename_i de k hde hk
      split at h
      · rename_i hlen
        cases h
        obtain ⟨kd,rfl,hkn⟩ := idx?_spec hk hi
        simp only [Rep] at hx
        obtain ⟨blk,off,rfl,hK⟩ := hx
        refine ⟨_,.pointer (some ⟨blk,off + k * de.size,none⟩),rfl,trivial,?_,by simp only [Rep]; exact ⟨blk,_,rfl,hK.drop _⟩⟩
        simp [asIntOf,run_und hd,hs,Instr.sureAddr,run_size hde,addr_add,hkn]
      · cases h
    · cases h
  · rename_i e b off n hs
    split at h
    · rename_i de k hde hk
      cases h
      obtain ⟨kd,rfl,hkn⟩ := idx?_spec hk hi
      simp only [Rep] at hx
      obtain ⟨ad,cap,rfl,hnc,hcm,had⟩ := hx
      obtain ⟨blk,hμ,rfl⟩ := had (by omega)
      refine ⟨_,.pointer (some ⟨blk,off + k * de.size,none⟩),rfl,trivial,?_,by simp only [Rep]; exact ⟨blk,hμ,rfl⟩⟩
      simp [asIntOf,run_und hd,hs,run_size hde,addr_add,hkn]
    · cases h
  · rename_i e r n xs hs
    split at h
    · rename_i de k hde hk
      split at h
      · rename_i hlen
        cases h
        obtain ⟨kd,rfl,hkn⟩ := idx?_spec hk hi
        simp only [Rep] at hx
        obtain ⟨ad,cap,rfl,hnc,hcm,_,hK⟩ := hx
        rcases hK with hK | ⟨blk,off,rfl,hK⟩
        · exact absurd hK hlen.2
        refine ⟨_,.pointer (some ⟨blk,off + k * de.size,none⟩),rfl,trivial,?_,by simp only [Rep]; exact ⟨blk,_,rfl,hK.drop _⟩⟩
        simp [asIntOf,run_und hd,hs,run_size hde,addr_add,hkn]
      · cases h
    · cases h
  · cases h
theorem indexPlan_ok {t : TypeId} {x i : C} {xv iv : Value} (hx : Rep G x xv) (hi : Rep G i iv) {p : Plan} (h : indexPlan P t x i = some p) :
    ∃ c v,p = .val c none ∧ c.noOwn ∧ (Instr.index t xv iv).run P w = .ok v w ∧ Rep G c v := by
  unfold indexPlan at h
  split at h
  · cases h
  rename_i d hd
  unfold Instr.index
  split at h
  · rename_i s hs
    split at h
    · rename_i k hk
      obtain ⟨kd,rfl,hkn⟩ := idx?_spec hk hi
      rw [rep_val] at hx
      subst hx
      cases hb : s.data[k]? with
      | none => rw [hb] at h; cases h
      | some b =>
        rw [hb] at h
        cases h
        have hs' : s[k]? = some b := by
          have hlt : k < s.data.size := (Array.getElem?_eq_some_iff.1 hb).1
          have : s[k]? = some (s[k]'hlt) := by simp [hkn]
          rw [this]
          have := (Array.getElem?_eq_some_iff.1 hb).2
          rw [← this]; rfl
        refine ⟨_,_,rfl,trivial,?_,rep_val.2 rfl⟩
        simp [asIntOf,run_und hd,hs,hs']
    · cases h
  · rename_i n e hs
    split at h
    · rename_i de k xs hde hk hag
      obtain ⟨kd,rfl,hkn⟩ := idx?_spec hk hi
      obtain ⟨vs,rfl,hr,h1⟩ := agg?_rep hag hx
      cases hg : getAt de xs (k * de.size) with
      | none => rw [hg] at h; cases h
      | some c =>
        rw [hg] at h
        cases h
        obtain ⟨v,hv,hrc,hno⟩ := getAt_part (w := w) hde hr h1 hg
        refine ⟨c,v,rfl,hno,?_,hrc⟩
        simp [asIntOf,run_und hd,hs,run_size hde,hkn,hv]
    · cases h
  · cases h
theorem fieldPlan_ok {t : TypeId} {x : C} {xv : Value} {f : Nat} (hx : Rep G x xv) {p : Plan} (h : fieldPlan P t x f = some p) :
    ∃ c v,p = .val c none ∧ c.noOwn ∧ (Instr.field t xv f).run P w = .ok v w ∧ Rep G c v := by
  unfold fieldPlan at h
  split at h
  · cases h
  rename_i d hd
  unfold Instr.field
  split at h
  · rename_i fields hs
    split at h
    · rename_i fd xs hf hag
      split at h
      · rename_i de hde
        obtain ⟨vs,rfl,hr,h1⟩ := agg?_rep hag hx
        cases hg : getAt de xs fd.offset with
        | none => rw [hg] at h; cases h
        | some c =>
          rw [hg] at h
          cases h
          obtain ⟨v,hv,hrc,hno⟩ := getAt_part (w := w) hde hr h1 hg
          refine ⟨c,v,rfl,hno,?_,hrc⟩
          simp [run_und hd,hs,hf,asAgg,hv]
      · cases h
    · cases h
  · cases h
theorem fieldAddrPlan_ok {t : TypeId} {x : C} {xv : Value} {f : Nat} (hx : Rep G x xv) {p : Plan} (h : fieldAddrPlan P t x f = some p) :
    ∃ c v,p = .val c none ∧ c.noOwn ∧ (Instr.fieldAt t xv f).run P w = .ok v w ∧ Rep G c v := by
  unfold fieldAddrPlan at h
  split at h
  · cases h
  rename_i d hd
  unfold Instr.fieldAt
  split at h
  · rename_i fields hs
    split at h
    · rename_i fd hf
      split at h
      · rename_i de hde
        split at h
        · cases h
        rename_i hz
        split at h
        · rename_i b off
          cases h
          simp only [Rep] at hx
          obtain ⟨blk,hμ,rfl⟩ := hx
          refine ⟨_,.pointer (some ⟨blk,off + fd.offset,none⟩),rfl,trivial,?_,by simp only [Rep]; exact ⟨blk,hμ,rfl⟩⟩
          simp [run_und hd,hs,hf,Instr.sureAddr,fieldPlace,run_size hde,hz,addr_add]
        · cases h
          simp only [Rep] at hx
          obtain ⟨blk,hμ,rfl,_⟩ := hx
          refine ⟨_,.pointer (some ⟨blk,fd.offset,none⟩),rfl,trivial,?_,by simp only [Rep]; exact ⟨blk,hμ,rfl⟩⟩
          simp [run_und hd,hs,hf,Instr.sureAddr,fieldPlace,run_size hde,hz,addr_add]
        · rename_i xs
          split at h
          · cases h
            simp only [Rep] at hx
            obtain ⟨blk,off,rfl,hK⟩ := hx
            refine ⟨_,.pointer (some ⟨blk,off + fd.offset,none⟩),rfl,trivial,?_,by simp only [Rep]; exact ⟨blk,_,rfl,hK.drop _⟩⟩
            simp [run_und hd,hs,hf,Instr.sureAddr,fieldPlace,run_size hde,hz,addr_add]
          · cases h
        · cases h
      · cases h
    · cases h
  · cases h
theorem lenPlan_ok {t ty : TypeId} {x : C} {xv : Value} (hx : Rep G x xv) {p : Plan} (h : lenPlan P t x = some p) :
    ∃ c v,p = .val c none ∧ c.noOwn ∧ (Builtin.len_ #[t] ty #[xv]).run P w = .ok v w ∧ Rep G c v := by
  unfold lenPlan at h
  split at h
  · cases h
  rename_i d hd
  unfold Builtin.len_
  split at h
  · rename_i s hs
    cases h
    rw [rep_val] at hx
    subst hx
    exact ⟨_,_,rfl,trivial,by simp [run_und hd,hs]; rfl,rep_val.2 rfl⟩
  · rename_i n e hs
    cases h
    exact ⟨_,_,rfl,trivial,by simp [run_und hd,hs]; rfl,rep_val.2 rfl⟩
  · rename_i e b off n hs
    cases h
    simp only [Rep] at hx
    obtain ⟨ad,cap,rfl,_⟩ := hx
    exact ⟨_,_,rfl,trivial,by simp [run_und hd,hs]; rfl,rep_val.2 rfl⟩
  · rename_i x0 d0 x1 e hs hn
    cases hsl : x0.sl? with
    | none => rw [hsl] at h; cases h
    | some r =>
      rw [hsl] at h
      cases h
      obtain ⟨ad,cap,rfl,_⟩ := sl?_rep hsl hx
      exact ⟨_,_,rfl,trivial,by simp [run_und hd,hs]; rfl,rep_val.2 rfl⟩
  · cases h
theorem eqEs_ok {D : Nat} {e : TypeId} {de : TD} (hde : td P e = some de) {f : C → C → Option Bool} (hf : ∀ a b r va vb,f a b = some r → Rep G a va → Rep G b vb → (Op.equalIn D e va vb).run P w = .ok r w)
    {xs ys : List C} {va vb : Array Value} (hx : RepL G xs va.toList) (hx1 : ∀ u ∈ va.toList,u.oneCell' = true) (hy : RepL G ys vb.toList) (hy1 : ∀ u ∈ vb.toList,u.oneCell' = true) :
    ∀ (l : List Nat) (r : Bool),eqEs f de xs ys l = some r →
      ∃ q,(forIn (m := Sem) l (none,PUnit.unit) fun i _ => do
        if !(← Op.equalIn D e (← part e va (i * de.size)) (← part e vb (i * de.size))) then pure (ForInStep.done (some false,PUnit.unit)) else pure (ForInStep.yield (none,PUnit.unit))).run P w = .ok (q,PUnit.unit) w ∧ q = (if r then none else some false)
  | [],r,h => by
    simp only [eqEs,Option.some.injEq] at h
    subst h
    exact ⟨none,by simp,rfl⟩
  | i :: l,r,h => by
    simp only [eqEs] at h
    cases ha : getAt de xs (i * de.size) with
    | none => rw [ha] at h; cases h
    | some a =>
      cases hb : getAt de ys (i * de.size) with
      | none => rw [ha,hb] at h; cases h
      | some b =>
        rw [ha,hb] at h
        simp only [] at h
        obtain ⟨pa,p1,p2,_⟩ := getAt_part (w := w) hde hx hx1 ha
        obtain ⟨pb,q1,q2,_⟩ := getAt_part (w := w) hde hy hy1 hb
        cases hfr : f a b with
        | none => rw [hfr] at h; cases h
        | some r' =>
          have hr := hf a b r' pa pb hfr p2 q2
          rw [hfr] at h
          cases r' with
          | false =>
            simp only [Option.some.injEq] at h
            subst h
            exact ⟨some false,by simp [p1,q1,hr],rfl⟩
          | true =>
            obtain ⟨q,h1,h2⟩ := eqEs_ok hde hf hx hx1 hy hy1 l r h
            refine ⟨q,?_,h2⟩
            simp only [List.forIn_cons,Sem.run_bind,p1,q1,hr,Result.andThen_ok,Bool.not_true,Bool.false_eq_true,if_false,Sem.run_pure]
            exact h1
theorem eqFs_ok {D : Nat} {f : TypeId → C → C → Option Bool} (hf : ∀ t a b r va vb,f t a b = some r → Rep G a va → Rep G b vb → (Op.equalIn D t va vb).run P w = .ok r w)
    {xs ys : List C} {va vb : Array Value} (hx : RepL G xs va.toList) (hx1 : ∀ u ∈ va.toList,u.oneCell' = true) (hy : RepL G ys vb.toList) (hy1 : ∀ u ∈ vb.toList,u.oneCell' = true) :
    ∀ (l : List Field) (r : Bool),eqFs P f xs ys l = some r → (Op.eqFields D va vb l).run P w = .ok r w
  | [],r,h => by
    simp only [eqFs,Option.some.injEq] at h
    subst h
    simp [Op.eqFields]
  | fd :: l,r,h => by
    simp only [eqFs] at h
    simp only [Op.eqFields]
    split at h
    · rename_i hne
      rw [if_pos hne]
      split at h
      · rename_i de hde
        cases ha : getAt de xs fd.offset with
        | none => rw [ha] at h; cases h
        | some a =>
          cases hb : getAt de ys fd.offset with
          | none => rw [ha,hb] at h; cases h
          | some b =>
            rw [ha,hb] at h
            simp only [] at h
            obtain ⟨pa,p1,p2,_⟩ := getAt_part (w := w) hde hx hx1 ha
            obtain ⟨pb,q1,q2,_⟩ := getAt_part (w := w) hde hy hy1 hb
            cases hfr : f fd.type a b with
            | none => rw [hfr] at h; cases h
            | some r' =>
              have hr := hf _ a b r' pa pb hfr p2 q2
              rw [hfr] at h
              cases r' with
              | false =>
                simp only [Option.some.injEq] at h
                subst h
                simp [p1,q1,hr]
              | true =>
                simp only [Sem.run_bind,p1,q1,hr,Result.andThen_ok,Bool.not_true,Bool.false_eq_true,if_false]
                exact eqFs_ok hf hx hx1 hy hy1 l r h
      · cases h
    · rename_i hne
      rw [if_neg hne]
      exact eqFs_ok hf hx hx1 hy hy1 l r h
theorem nilS_rep {x : C} {v : Value} {b : Bool} (h : x.nilS? = some b) (hx : Rep G x v) : ∃ a n c,v = .slice a n c ∧ a.isNone = b := by
  unfold C.nilS? at h
  split at h
  · cases h; rw [rep_val] at hx; exact ⟨_,_,_,hx,rfl⟩
  · cases h
    simp only [Rep] at hx
    obtain ⟨a,cap,h1,_,_,_,h5⟩ := hx
    rcases h5 with h5 | ⟨blk,off,rfl,_⟩
    · cases h5
    · exact ⟨_,_,_,h1,rfl⟩
  · cases h
    simp only [Rep] at hx
    obtain ⟨a,cap,h1,_,_,h4⟩ := hx
    obtain ⟨blk,_,rfl⟩ := h4 (by omega)
    exact ⟨_,_,_,h1,rfl⟩
  · cases h
    simp only [Rep] at hx
    obtain ⟨a,cap,h1,_,_,h4⟩ := hx
    rcases h4 with ⟨h4,_⟩ | ⟨blk,_,rfl,_⟩
    · omega
    · exact ⟨_,_,_,h1,rfl⟩
  · cases h
theorem nilP_rep {x : C} {v : Value} {b : Bool} (h : x.nilP? = some b) (hx : Rep G x v) : ∃ a,v = .pointer a ∧ a.isNone = b := by
  unfold C.nilP? at h
  split at h
  · cases h; rw [rep_val] at hx; exact ⟨_,hx,rfl⟩
  · cases h
    simp only [Rep] at hx
    obtain ⟨blk,_,h2⟩ := hx
    exact ⟨_,h2,rfl⟩
  · cases h
    simp only [Rep] at hx
    obtain ⟨blk,_,h2,_⟩ := hx
    exact ⟨_,h2,rfl⟩
  · cases h
    simp only [Rep] at hx
    obtain ⟨blk,off,h1,_⟩ := hx
    exact ⟨_,h1,rfl⟩
  · cases h
theorem nilE_some {p q : Option Bool} {b : Bool} (h : nilE p q = some b) : (p = some true ∧ q = some b) ∨ (p = some b ∧ q = some true) := by
  unfold nilE at h
  split at h
  · cases h; exact .inl ⟨rfl,rfl⟩
  · cases h; exact .inr ⟨rfl,rfl⟩
  · cases h
theorem eqC_ok : ∀ (d : Nat) (t : TypeId) (x y : C) (b : Bool) (xv yv : Value),eqC P d t x y = some b → Rep G x xv → Rep G y yv → ∀ D,d ≤ D → (Op.equalIn D t xv yv).run P w = .ok b w
  | 0,_,_,_,_,_,_,h,_,_,_,_ => by simp [eqC] at h
  | d + 1,t,x,y,b,xv,yv,h,hx,hy,D,hD => by
    obtain ⟨D,rfl⟩ : ∃ D',D = D' + 1 := ⟨D - 1,by omega⟩
    simp only [eqC] at h
    split at h
    · cases h
    rename_i dt hdt
    have hu := (td_spec hdt).1
    split at h
    · rename_i hd
      rw [hd] at hu
      split at h
      · rename_i p q
        rw [rep_val] at hx hy; subst hx hy
        cases h
        exact run_equalIn_bool' w D t p q hu
      · cases h
    · rename_i k0 hd
      rw [hd] at hu
      split at h
      · rename_i k p k' q
        rw [rep_val] at hx hy; subst hx hy
        split at h
        · rename_i e; subst e
          cases h
          exact run_equalIn_int w D t k k0 p q hu
        · cases h
      · cases h
    · rename_i hd
      rw [hd] at hu
      split at h
      · rename_i p q
        rw [rep_val] at hx hy; subst hx hy
        cases h
        exact run_equalIn_string w D t p q hu
      · cases h
    · rename_i fields hd
      rw [hd] at hu
      split at h
      · cases h
      rename_i hst
      split at h
      · rename_i xs ys h1 h2
        obtain ⟨va,rfl,a1,a2⟩ := agg?_rep h1 hx
        obtain ⟨vb,rfl,b1,b2⟩ := agg?_rep h2 hy
        have hfo : P.fieldsOf t = fields := by simp [Program.fieldsOf,hu]
        rw [run_equalIn_struct w D t va vb (by rw [hfo]; exact hu) (by simpa using hst),hfo]
        exact eqFs_ok (fun t' a b' r va' vb' hr ra rb => eqC_ok d t' a b' r va' vb' hr ra rb D (by omega)) a1 a2 b1 b2 _ _ h
      · cases h
    · rename_i n e hd
      rw [hd] at hu
      split at h
      · rename_i de xs ys hde h1 h2
        obtain ⟨va,rfl,a1,a2⟩ := agg?_rep h1 hx
        obtain ⟨vb,rfl,b1,b2⟩ := agg?_rep h2 hy
        obtain ⟨q,k1,k2⟩ := eqEs_ok (D := D) hde (fun a b' r va' vb' hr ra rb => eqC_ok d e a b' r va' vb' hr ra rb D (by omega)) a1 a2 b1 b2 _ _ h
        simp only [Op.equalIn,Sem.run_bind,run_underlying hu,Result.andThen_ok,run_size hde,Std.Legacy.Range.forIn_eq_forIn_range',Std.Legacy.Range.size,Nat.sub_zero,Nat.add_one_sub_one,Nat.div_one]
        refine (congrArg (fun z => Result.andThen z _) k1).trans ?_
        rw [k2]
        cases b <;> simp [Result.andThen]
      · cases h
    · rename_i e hd
      rw [hd] at hu
      rcases nilE_some h with ⟨h1,h2⟩ | ⟨h1,h2⟩
      · obtain ⟨a,n,c,rfl,ha⟩ := nilS_rep h1 hx
        obtain ⟨a',n',c',rfl,ha'⟩ := nilS_rep h2 hy
        cases a with
        | none => simp only [Op.equalIn,Sem.run_bind,run_underlying hu,Result.andThen_ok,← ha']; rfl
        | some a => cases ha
      · obtain ⟨a,n,c,rfl,ha⟩ := nilS_rep h1 hx
        obtain ⟨a',n',c',rfl,ha'⟩ := nilS_rep h2 hy
        cases a' with
        | some a' => cases ha'
        | none => cases a with
          | none => simp only [Op.equalIn,Sem.run_bind,run_underlying hu,Result.andThen_ok,← ha]; rfl
          | some a => simp only [Op.equalIn,Sem.run_bind,run_underlying hu,Result.andThen_ok,← ha]; rfl
    · rename_i e hd
      rw [hd] at hu
      rcases nilE_some h with ⟨h1,h2⟩ | ⟨h1,h2⟩
      · obtain ⟨a,rfl,ha⟩ := nilP_rep h1 hx
        obtain ⟨a',rfl,ha'⟩ := nilP_rep h2 hy
        cases a with
        | none => simp only [Op.equalIn,Sem.run_bind,run_underlying hu,Result.andThen_ok,← ha']; rfl
        | some a => cases ha
      · obtain ⟨a,rfl,ha⟩ := nilP_rep h1 hx
        obtain ⟨a',rfl,ha'⟩ := nilP_rep h2 hy
        cases a' with
        | some a' => cases ha'
        | none => cases a with
          | none => simp only [Op.equalIn,Sem.run_bind,run_underlying hu,Result.andThen_ok,← ha]; rfl
          | some a => simp only [Op.equalIn,Sem.run_bind,run_underlying hu,Result.andThen_ok,← ha]; rfl
    · cases h
theorem eqPlan_ok {op : BinOp} {t : TypeId} {x y : C} {xv yv : Value} (xo yo : Operand) (hx : Rep G x xv) (hy : Rep G y yv) {p : Plan} (h : eqPlan P op t x y = some p) :
    ∃ c v,p = .val c none ∧ c.noOwn ∧ (do eqGuard op t xo yo xv yv; binOp op t xv yv).run P w = .ok v w ∧ Rep G c v := by
  unfold eqPlan at h
  split at h
  · rename_i hh
    obtain ⟨h12,h3⟩ := hh
    have shape : ((∃ va,xv = .agg va) ∧ ∃ vb,yv = .agg vb) ∨ ((∃ a n c,xv = .slice a n c) ∧ ∃ a n c,yv = .slice a n c) ∨ ((∃ a,xv = .pointer a) ∧ ∃ a,yv = .pointer a) := by
      rcases h12 with ⟨h1,h2⟩ | ⟨h1,h2⟩ | ⟨h1,h2⟩
      · obtain ⟨xs,h1⟩ := Option.isSome_iff_exists.1 h1
        obtain ⟨ys,h2⟩ := Option.isSome_iff_exists.1 h2
        obtain ⟨va,rfl,a1,a2⟩ := agg?_rep h1 hx
        obtain ⟨vb,rfl,b1,b2⟩ := agg?_rep h2 hy
        exact .inl ⟨⟨_,rfl⟩,⟨_,rfl⟩⟩
      · obtain ⟨b1,h1⟩ := Option.isSome_iff_exists.1 h1
        obtain ⟨b2,h2⟩ := Option.isSome_iff_exists.1 h2
        obtain ⟨a,n,c,e1,_⟩ := nilS_rep h1 hx
        obtain ⟨a',n',c',e2,_⟩ := nilS_rep h2 hy
        exact .inr (.inl ⟨⟨_,_,_,e1⟩,⟨_,_,_,e2⟩⟩)
      · obtain ⟨b1,h1⟩ := Option.isSome_iff_exists.1 h1
        obtain ⟨b2,h2⟩ := Option.isSome_iff_exists.1 h2
        obtain ⟨a,e1,_⟩ := nilP_rep h1 hx
        obtain ⟨a',e2,_⟩ := nilP_rep h2 hy
        exact .inr (.inr ⟨⟨_,e1⟩,⟨_,e2⟩⟩)
    split at h
    · cases he : eqC P 9 t x y with
      | none => rw [he] at h; cases h
      | some b =>
        rw [he] at h
        cases h
        have := eqC_ok (G := G) (w := w) 9 t x y b _ _ he hx hy Op.maxDepth (by decide)
        rcases shape with ⟨⟨_,rfl⟩,⟨_,rfl⟩⟩ | ⟨⟨_,_,_,rfl⟩,⟨_,_,_,rfl⟩⟩ | ⟨⟨_,rfl⟩,⟨_,rfl⟩⟩ <;>
          exact ⟨_,.bool b,rfl,trivial,by simp [eqGuard,binOp,h3,Op.equal,this],rep_val.2 rfl⟩
    · cases he : eqC P 9 t x y with
      | none => rw [he] at h; cases h
      | some b =>
        rw [he] at h
        cases h
        have := eqC_ok (G := G) (w := w) 9 t x y b _ _ he hx hy Op.maxDepth (by decide)
        rcases shape with ⟨⟨_,rfl⟩,⟨_,rfl⟩⟩ | ⟨⟨_,_,_,rfl⟩,⟨_,_,_,rfl⟩⟩ | ⟨⟨_,rfl⟩,⟨_,rfl⟩⟩ <;>
          exact ⟨_,.bool !b,rfl,trivial,by simp [eqGuard,binOp,h3,Op.equal,this],rep_val.2 rfl⟩
    · cases h
  · cases h
theorem binPlan_ok {op : BinOp} {t : TypeId} {x y : C} {xv yv : Value} (xo yo : Operand) (hx : Rep G x xv) (hy : Rep G y yv) {p : Plan} (h : binPlan P op t x y = some p) :
    ∃ c v,p = .val c none ∧ c.noOwn ∧ (do eqGuard op t xo yo xv yv; binOp op t xv yv).run P w = .ok v w ∧ Rep G c v := by
  unfold binPlan at h
  split at h
  · rw [rep_val] at hx hy
    subst hx hy
    split at h
    · rename_i tdo p' q d hd
      split at h
      · rename_i hb
        cases hs : sbin op (.bool p') (.bool q) with
        | none => rw [hs] at h; cases h
        | some v =>
          rw [hs] at h
          cases h
          exact ⟨_,v,rfl,trivial,sbin_bool P w op t xo yo p' q (hb ▸ (td_spec hd).1) hs,rep_val.2 rfl⟩
      · cases h
    · rename_i tdo k p' k' q
      cases hs : sbin op (.int k p') (.int k' q) with
      | none => rw [hs] at h; cases h
      | some v =>
        rw [hs] at h
        cases h
        exact ⟨_,v,rfl,trivial,sbin_int P w op t xo yo k k' p' q hs,rep_val.2 rfl⟩
    · rename_i tdo p' q
      cases hs : sbin op (.string p') (.string q) with
      | none => rw [hs] at h; cases h
      | some v =>
        rw [hs] at h
        cases h
        exact ⟨_,v,rfl,trivial,sbin_str P w op t xo yo p' q hs,rep_val.2 rfl⟩
    · exact eqPlan_ok xo yo (rep_val.2 rfl) (rep_val.2 rfl) h
  · exact eqPlan_ok xo yo hx hy h
theorem unPlan_ok {op : UnOp} {x : C} {xv : Value} (hx : Rep G x xv) {p : Plan} (h : unPlan op x = some p) :
    ∃ c v,p = .val c none ∧ c.noOwn ∧ (Op.unary op xv).run P w = .ok v w ∧ Rep G c v := by
  unfold unPlan at h
  split at h <;> first | (cases h; done) | skip
  all_goals
    rw [rep_val] at hx
    subst hx
    cases h
    exact ⟨_,_,rfl,trivial,rfl,rep_val.2 rfl⟩
end
end Go.Sx
namespace Go.Sx
open Go.RowKit
section
variable {cx : Cx} {G : Gh} {h : Hp} {w : World} {st : St} {a : Act} {o : Oper} {P : Program}
def Src (P : Program) (w : World) (size : Nat) (yv : Value) (m : Nat) (news : List Value) : Prop :=
  (∀ w',(Builtin.lenOf yv).run P w' = .ok m w') ∧ (∀ w' : World,w'.heap = w.heap → (Builtin.firstCells size m yv).run P w' = .ok news.toArray w') ∧ ∀ u ∈ news,u.oneCell' = true
theorem cells_firstCells {w' : World} (size m : Nat) (blk off len cap : Nat) (news : List Value) (hl : news.length = m * size) (hc : ∀ j u,news[j]? = some u → w'.cell? ⟨blk,off + j,none⟩ = some u) :
    (Builtin.firstCells size m (.slice (some ⟨blk,off,none⟩) len cap)).run P w' = .ok news.toArray w' :=
  run_firstCells_some w' size m ⟨blk,off,none⟩ len cap news hl fun j v hv => by rw [addr_add]; exact hc j v hv
theorem src_ok (H : WorldOK G h w) {y : C} {yv : Value} {m size : Nat} {ys : List C} (hs : src? y = some (m,ys)) (hlen : ys.length = m * size) (hr : Rep G y yv) :
    ∃ news,news.length = ys.length ∧ RepL G ys news ∧ Src P w size yv m news := by
  unfold src? at hs
  split at hs
  · rename_i s
    cases hs
    rw [rep_val] at hr
    subst hr
    refine ⟨s.data.toList.map fun b => .int .u8 b.toNat,by simp,?_,fun w' => rfl,fun w' _ => ?_,?_⟩
    · refine RepL.of_get (by simp) fun i x v hx hv => ?_
      rw [List.getElem?_map] at hx hv
      cases hb : s.data.toList[i]? with
      | none => rw [hb] at hx; cases hx
      | some b => rw [hb] at hx hv; cases hx; cases hv; exact rep_val.2 rfl
    · simp only [Builtin.firstCells,Sem.run_pure]
      congr 1
      have : s.extract 0 s.size = s := by
        apply ByteArray.ext
        simp
      rw [this]
      apply Array.ext'
      simp
    · intro u hu
      obtain ⟨b,_,rfl⟩ := List.mem_map.1 hu
      rfl
  · rename_i c hne
    obtain ⟨b,cap,rfl,hmc,hcm,hk⟩ := sl?_rep hs hr
    rcases hk with rfl | ⟨blk,off,rfl,hk⟩
    · have hz : m * size = 0 := by simpa using hlen.symm
      refine ⟨[],rfl,by simp [RepL],fun _ => rfl,fun w' _ => ?_,by simp⟩
      cases b with
      | none => simp [Builtin.firstCells]
      | some ad => simp [Builtin.firstCells,hz,loadCells,loadCellsFrom]
    · obtain ⟨vs,v1,v2,v3,v4⟩ := hk.values
      refine ⟨vs,v1,v2,fun _ => rfl,fun w' hw' => cells_firstCells size m blk off m cap vs (by rw [v1,hlen]) fun j u hu => ?_,v4⟩
      have := H.known _ _ _ (v3 j u hu)
      rw [← this]
      simp only [World.cell?,hw']
theorem sv_src (H : WorldOK G h w) {b off m size : Nat} {yv : Value} {cells : List C} (hb : h.at b = some cells) (hlen : off + m * size ≤ cells.length) (hr : Rep G (.sv b off m) yv) :
    ∃ news,news.length = m * size ∧ RepL G (((cells.drop off).take (m * size)).map C.noR) news ∧ Src P w size yv m news := by
  simp only [Rep] at hr
  obtain ⟨ad,cap,rfl,hmc,hcm,had⟩ := hr
  by_cases hm : m = 0
  · subst hm
    refine ⟨[],by simp,by simp [RepL],fun _ => rfl,fun w' hw' => ?_,by simp⟩
    cases ad with
    | none => simp [Builtin.firstCells]
    | some ad => simp [Builtin.firstCells,loadCells,loadCellsFrom]
  · obtain ⟨blk,h1,rfl⟩ := had hm
    obtain ⟨cs,e,⟨fr,h2,_⟩,h0,h3,h4⟩ := H.bx hb h1
    have hcl : (cs.toList.take cells.length).length = cells.length := h3.length.symm
    have hnl : (((cs.toList.take cells.length).drop off).take (m * size)).length = m * size := by
      simp only [List.length_take,List.length_drop] at hcl ⊢; omega
    refine ⟨((cs.toList.take cells.length).drop off).take (m * size),hnl,((h3.drop off).take _).map_noR,fun _ => rfl,fun w' hw' => ?_,fun u hu => h4 u (List.mem_of_mem_take (List.mem_of_mem_drop (List.mem_of_mem_take hu)))⟩
    refine cells_firstCells size m blk off m cap _ hnl fun j u hu => ?_
    rw [List.getElem?_take] at hu
    split at hu
    · rw [List.getElem?_drop,List.getElem?_take] at hu
      split at hu
      · simp only [World.cell?,hw',h2]
        simpa using hu
      · cases hu
    · cases hu
theorem run_storeCells_fr (P : Program) (g o : Nat) (t : TypeId) (fr : Nat × Nat) : ∀ (vs : List Value) (i : Nat) (cur : Array Value) (w : World),w.heap[g]? = some (.cells cur t fr) → (fr.2 = 0 ∨ cur.size ≤ fr.1) →
    o + i + vs.length ≤ cur.size → (∀ v ∈ vs,v.oneCell' = true) →
    (storeCells ⟨g,o,none⟩ vs i).run P w = .ok () (w.setRow g (cur.toList.take (o + i) ++ vs ++ cur.toList.drop (o + i + vs.length)).toArray)
  | [],i,cur,w,hg,_,_,_ => by
    simp only [storeCells,List.append_nil,List.length_nil,Nat.add_zero,List.take_append_drop,Array.toArray_toList]
    rw [setRow_self w g cur t fr hg]
    rfl
  | v :: rest,i,cur,w,hg,hf,hl,h1 => by
    have hi : o + i < cur.size := by simp at hl; omega
    have hadd : (⟨g,o,none⟩ : Addr).add i = ⟨g,o + i,none⟩ := by unfold Addr.add; split <;> simp_all
    have hcell : w.cell? ⟨g,o + i,none⟩ = some cur[o + i] := by simp [World.cell?,hg,hi]
    have hfro : w.frozen? ⟨g,o + i,none⟩ = false := by
      obtain ⟨lo,hi'⟩ := fr
      simp only [World.frozen?,hg,Bool.and_eq_false_iff,decide_eq_false_iff_not]
      simp only at hf
      omega
    have hst : (store ((⟨g,o,none⟩ : Addr).add i) v).run P w = .ok () (w.setRow g (cur.setIfInBounds (o + i) v)) := by
      rw [hadd,run_store P w _ v _ (h1 v (by simp)),hcell]
      simp [hfro,setCell_eq_setRow w g (o + i) cur t fr v hg]
    have ih := run_storeCells_fr P g o t fr rest (i + 1) (cur.setIfInBounds (o + i) v) (w.setRow g (cur.setIfInBounds (o + i) v)) (setRow_heap w g cur _ t _ hg) (by simpa using hf) (by simp at hl ⊢; omega) (fun x hx => h1 x (by simp [hx]))
    simp only [storeCells,Sem.run_bind,hst,Result.andThen_ok,ih,setRow_setRow]
    congr 3
    have e := list_seg_step cur.toList (o + i) v rest (by simp at hl ⊢; omega)
    simpa [Array.toList_setIfInBounds,Nat.add_assoc] using e
theorem run_append_more (t t2 ty e : TypeId) (d d2 de : TD) (z : Value) (i : TypeInfo) (hd : td P t = some d) (hde : d.u = .slice e) (he : td P e = some de) (hi : P.info? e = some i) (hz : i.zero = some z)
    (hd2 : td P t2 = some d2) (hn2 : notInt d2.u = true)
    (b : Option Addr) (n cap : Nat) (olds : List Value) (ho : Src P w de.size (.slice b n cap) n olds) (yv : Value) (m : Nat) (news : List Value) (hs : Src P w de.size yv m news)
    (hg : cap < n + m) (h63 : n + m ≤ 9223372036854775807) (hfit : (n + m) * de.bytes ≤ 140737488355328) :
    (Builtin.append_ #[t,t2] ty #[.slice b n cap,yv]).run P w =
      .ok (.slice (some ⟨w.heap.size,0,none⟩) (n + m) (grownCap w (n + m) cap e))
        (w.drew.alloc (.cells (olds ++ news ++ (Builtin.zeroCells z.cells (grownCap w (n + m) cap e - (n + m))).toList).toArray e)) := by
  obtain ⟨_,i',z',hi',hsz,hby,hz',_⟩ := td_spec he
  rw [hi] at hi'
  cases hi'
  have hn : ¬ (n + m ≤ cap) := by omega
  have h63' : ¬ (9223372036854775807 < ((n : Int) + (m : Int))) := by omega
  have hff := growslice_fits (need := n + m) (old := cap) (bytes := i.bytes) (by omega) (by rw [hby]; exact hfit)
  have h48' : ¬ (281474976710656 < Builtin.nextslicecap (n + m) cap * i.bytes) := by omega
  have hf := hs.2.1 w.drew rfl
  have hfo := ho.2.1 w.drew rfl
  have hl := hs.1
  rw [← hsz] at hf hfo
  have fin : (olds.toArray ++ news.toArray ++ Builtin.zeroCells z.cells (grownCap w (n + m) cap e - (n + m))) = (olds ++ news ++ (Builtin.zeroCells z.cells (grownCap w (n + m) cap e - (n + m))).toList).toArray := by
    apply Array.ext'
    simp
  rw [← fin]
  rcases notInt_spec hn2 with ⟨e2,hu2⟩ | hu2 <;>
    (simp [Builtin.append_,run_und hd,hde,run_und hd2,hu2,sizeOf,typeInfo,zeroValue,hi,hz,hl,hn,h63',h48',Question.forced,hf,hfo,newRow,grownCap]
     try (congr 2; apply Array.ext'; simp))
theorem run_append_fit (t t2 ty e : TypeId) (d d2 de : TD) (hd : td P t = some d) (hde : d.u = .slice e) (he : td P e = some de)
    (hd2 : td P t2 = some d2) (hn2 : notInt d2.u = true)
    (g n cap : Nat) (cur : Array Value) (e' : TypeId) (hgr : RowIs w.heap[g]? cur e') (yv : Value) (m : Nat) (news : List Value) (hs : Src P w de.size yv m news)
    (hnl : news.length = m * de.size) (hg : n + m ≤ cap) (hfit : (n + m) * de.size ≤ cur.size) :
    (Builtin.append_ #[t,t2] ty #[.slice (some ⟨g,0,none⟩) n cap,yv]).run P w =
      .ok (.slice (some ⟨g,0,none⟩) (n + m) cap) (w.setRow g (cur.toList.take (n * de.size) ++ news ++ cur.toList.drop (n * de.size + news.length)).toArray) := by
  obtain ⟨_,i,z,hi,hsz,hby,hz,_⟩ := td_spec he
  have hf := hs.2.1 w rfl
  have hl := hs.1
  rw [← hsz] at hf
  obtain ⟨fr,hgr,hfr⟩ := hgr
  have hst := run_storeCells_fr P g (n * i.size) e' fr news 0 cur w hgr hfr (by rw [hnl,Nat.add_zero,hsz,← Nat.add_mul]; exact hfit) hs.2.2
  simp only [Nat.add_zero] at hst
  rw [hsz] at hst
  rw [hsz] at hf
  rcases notInt_spec hn2 with ⟨e2,hu2⟩ | hu2 <;>
    simp [Builtin.append_,run_und hd,hde,run_und hd2,hu2,run_size he,hl,hg,hf,addr_add,hst]
theorem run_append_nothing (t t2 ty e : TypeId) (d d2 de : TD) (hd : td P t = some d) (hde : d.u = .slice e) (he : td P e = some de)
    (hd2 : td P t2 = some d2) (hn2 : notInt d2.u = true) (b : Option Addr) (n : Nat) (yv : Value) (hs : Src P w de.size yv 0 []) :
    (Builtin.append_ #[t,t2] ty #[.slice b n n,yv]).run P w = .ok (.slice b n n) w := by
  obtain ⟨_,i,z,hi,hsz,hby,hz,_⟩ := td_spec he
  have hf := hs.2.1 w rfl
  have hl := hs.1
  rw [← hsz] at hf
  rw [hsz] at hf
  cases b with
  | none => rcases notInt_spec hn2 with ⟨e2,hu2⟩ | hu2 <;> simp [Builtin.append_,run_und hd,hde,run_und hd2,hu2,run_size he,hl,hf]
  | some ad => rcases notInt_spec hn2 with ⟨e2,hu2⟩ | hu2 <;> simp [Builtin.append_,run_und hd,hde,run_und hd2,hu2,run_size he,hl,hf,storeCells]
def more (G : Gh) (g lo hi : Nat) (cs : Array Value) (q : Place) : Gh :=
  { K := fun b o => if b = g ∧ lo ≤ o ∧ o < hi then cs[o]? else G.K b o,μ := G.μ,T := fun b => if b = g then some q else G.T b,σ := G.σ }
theorem more_le {g lo hi : Nat} {cs : Array Value} {q : Place} (hk : ∀ o,lo ≤ o → G.K g o = none) : G.Le (more G g lo hi cs q) :=
  ⟨fun b o u hu => (by
    simp only [more]
    rw [if_neg]
    · exact hu
    · rintro ⟨rfl,h2,_⟩
      rw [hk o h2] at hu; cases hu),fun _ _ x => x,fun _ _ x => x⟩
theorem inplace (H : WorldOK G h w) {g p lo hi : Nat} {q : Place} {cur cur' : Array Value} {e : TypeId} (ht : G.T g = some (0,p,0)) (hg : w.heap[g]? = some (.cells cur e (0,0)))
    (hk : ∀ o,lo ≤ o → G.K g o = none) (hm : ∀ b,G.μ b ≠ some g) (hsame : ∀ j,j < lo → cur'[j]? = cur[j]?) :
    WorldOK (more G g lo hi cur' q) h (w.setRow g cur') ∧ Frm G w (more G g lo hi cur' q) (w.setRow g cur') ∧
    ∀ (r : Place) (v : Value) (s n : Nat),r ≠ (0,p,0) → OwnRow G w r v s n → OwnRow (more G g lo hi cur' q) (w.setRow g cur') r v s n := by
  have le := more_le (hi := hi) (cs := cur') (q := q) hk
  have hblk : (w.setRow g cur').heap[g]? = some (.cells cur' e (0,0)) := setRow_heap w g cur cur' e (0,0) hg
  have hoth : ∀ b,b ≠ g → (w.setRow g cur').heap[b]? = w.heap[b]? := fun b hne => setRow_other w g b cur' hne
  have own : ∀ (r : Place) (v : Value) (s n : Nat),r ≠ (0,p,0) → OwnRow G w r v s n → OwnRow (more G g lo hi cur' q) (w.setRow g cur') r v s n := by
    intro r v s n hr O
    rcases O with O | ⟨k,cap,c,e',a1,a2,a3,a4,a5,a6⟩
    · exact .inl O
    · have hne : k ≠ g := fun e => by rw [e,ht] at a2; cases a2; exact hr rfl
      refine .inr ⟨k,cap,c,e',a1,by simp only [more]; rw [if_neg hne]; exact a2,by rw [hoth k hne]; exact a3,a4,fun o ho => ?_,a6⟩
      simp only [more]
      rw [if_neg (fun x => hne x.1)]
      exact a5 o ho
  refine ⟨⟨?_,?_,fun b blk hb => by have := H.dom b blk hb; simpa using this,H.inj,?_,?_,?_,?_,H.mpoT (fun _ _ x => x) (fun k es clk hk => by rw [hoth k (fun e => by rw [e,hg] at hk; cases hk)]; exact hk) le,H.mpi⟩,⟨rfl,rfl,rfl,by simp,le,?_⟩,own⟩
  · intro b o u hu
    simp only [more] at hu
    split at hu
    · rename_i hb
      obtain ⟨rfl,h2,h3⟩ := hb
      simp only [World.cell?,hblk]
      simpa using hu
    · rename_i hb
      by_cases hbg : b = g
      · subst hbg
        have hlt : o < lo := by
          rcases Nat.lt_or_ge o lo with hl | hl
          · exact hl
          · rw [hk o hl] at hu; cases hu
        have := H.known b o u hu
        simp only [World.cell?,hblk,hg] at this ⊢
        rw [hsame o hlt]
        exact this
      · have := H.known b o u hu
        rw [← this]
        exact World.cell?_of_block (hoth b hbg)
  · intro b cells hb
    rcases H.box b cells hb with hE | ⟨blk,cs,e',r1,r2,r0,r3,r4⟩
    · exact .inl hE
    · have hne : blk ≠ g := fun e => hm b (e ▸ r1)
      exact .inr ⟨blk,cs,e',r1,by rw [hoth blk hne]; exact r2,r0,r3.mono le,r4⟩
  · intro b blk hb
    have hne : blk ≠ g := fun e => hm b (e ▸ hb)
    obtain ⟨s1,s2⟩ := H.sep b blk hb
    refine ⟨fun o => ?_,?_⟩
    · simp only [more]; rw [if_neg (fun x => hne x.1)]; exact s1 o
    · simp only [more]; rw [if_neg hne]; exact s2
  · intro b r hb
    simp only [more] at hb
    split at hb
    · subst_vars
      have := H.tlt _ _ ht
      simpa using this
    · have := H.tlt b r hb
      simpa using this
  · intro b cells off s n xs blk v hb hc hμ hv
    have hne : blk ≠ g := fun e => hm b (e ▸ hμ)
    have hv2 : w.cell? ⟨blk,off,none⟩ = some v := by rw [← hv]; exact (World.cell?_of_block (hoth blk hne)).symm
    exact own _ v s n (by simp) (H.own b cells off s n xs blk v hb hc hμ hv2)
  · intro b z hz
    obtain ⟨k,cs',e',fr',r1,r2,r3⟩ := H.siz b z hz
    have hne : k ≠ g := fun e => hm b (e ▸ r1)
    exact ⟨k,cs',e',fr',r1,by rw [hoth k hne]; exact r2,r3⟩
  · intro b hb htn hmn
    have hne : b ≠ g := fun e => by rw [e,ht] at htn; cases htn
    refine ⟨hoth b hne,?_,hmn,fun o => ?_⟩
    · simp only [more]; rw [if_neg hne]; exact htn
    · simp only [more]; rw [if_neg (fun x => hne x.1)]
end
end Go.Sx
namespace Go.Sx
open Go.RowKit
section
variable {cx : Cx} {G : Gh} {h : Hp} {w : World} {st : St} {a : Act} {o : Oper} {P : Program}
theorem run_builtin (b : Builtin) (args : Array Operand) (ts : Array TypeId) (s : Sem Value) (ho : o.op = .call { callee := .builtin b,args,argTypes := ts })
    (hb : ∀ cs,builtin b ts o.type cs (args.map a.eval) = (do pure (.value (← s)))) :
    (execOp a.eval o).run P w = (s.run P w).andThen fun v w' => .ok (.value v) w' := by
  unfold execOp
  simp only [ho,resolve,Sem.run_bind,Sem.run_pure,Result.andThen_ok,invoke]
  rw [hb]
  simp only [Sem.run_bind,Sem.run_pure]
theorem xs_olds (H : WorldOK G h w) {n s : Nat} {xs : List C} {b : Option Addr} {cap : Nat} (hlen : xs.length = n * s) (hk : xs = [] ∨ ∃ blk off,b = some ⟨blk,off,none⟩ ∧ RepK G blk off xs) :
    ∃ olds,olds.length = xs.length ∧ RepL G xs olds ∧ Src P w s (.slice b n cap) n olds := by
  rcases hk with rfl | ⟨blk,off,rfl,hk⟩
  · have hz : n * s = 0 := by simpa using hlen.symm
    refine ⟨[],rfl,by simp [RepL],fun _ => rfl,fun w' _ => ?_,by simp⟩
    cases b with
    | none => simp [Builtin.firstCells]
    | some ad => simp [Builtin.firstCells,hz,loadCells,loadCellsFrom]
  · obtain ⟨vs,v1,v2,v3,v4⟩ := hk.values
    refine ⟨vs,v1,v2,fun _ => rfl,fun w' hw' => cells_firstCells s n blk off n cap vs (by rw [v1,hlen]) fun j u hu => ?_,v4⟩
    rw [← H.known _ _ _ (v3 j u hu)]
    simp only [World.cell?,hw']
theorem size_zeroCells' (z : Array Value) (n : Nat) : (Builtin.zeroCells z n).size = n * z.size := by simp [Builtin.zeroCells]
theorem repK_of {G : Gh} {blk off : Nat} {xs : List C} {vs : List Value} (h : RepL G xs vs) (h1 : ∀ u ∈ vs,u.oneCell' = true) (hk : ∀ (j : Nat) (u : Value),vs[j]? = some u → G.K blk (off + j) = some u) : RepK G blk off xs :=
  RepK.of_get fun i x hx => by
    obtain ⟨u,hu,hr⟩ := h.get i x hx
    exact ⟨u,hk i u hu,h1 u (List.mem_of_getElem? hu),hr⟩
theorem append_core (H : Pre cx G w st a) (d : Place) {t t2 ty e : TypeId} {dt d2 de : TD} (hd : td cx.P t = some dt) (hde : dt.u = .slice e) (he : td cx.P e = some de)
    (hd2 : td cx.P t2 = some d2) (hn2 : notInt d2.u = true)
    {n : Nat} {xs : List C} {k : Option Nat} {b : Option Addr} {cap : Nat} (hnc : n ≤ cap) (hcm : cap ≤ maxLen) (hk : xs = [] ∨ ∃ blk off,b = some ⟨blk,off,none⟩ ∧ RepK G blk off xs)
    (hstart : cap = n ∨ ∃ p,k = some p ∧ OwnRow G w (0,p,0) (.slice b n cap) de.size n)
    {yv : Value} {m : Nat} {ys : List C} {news : List Value} (hnl : news.length = ys.length) (hry : RepL G ys news) (hsrc : Src cx.P w de.size yv m news)
    (h1 : xs.length = n * de.size) (h2 : ys.length = m * de.size) (h3 : 0 < de.size) (h4 : de.zero.length = de.size) (h5 : (n + m) * de.bytes ≤ 140737488355328) (h6 : n + m ≤ 9223372036854775807) :
    ∃ v w' G',(Builtin.append_ #[t,t2] ty #[.slice b n cap,yv]).run cx.P w = .ok v w' ∧ Out G w ⟨killS k st.env,st.h⟩ (av a) d (.sl (.own de.size) (n + m) (xs ++ ys)) v G' w' := by
  obtain ⟨olds,o1,o2,o3⟩ := xs_olds (P := cx.P) (cap := cap) H.ok h1 hk
  have hml : maxLen = 9223372036854775807 := by decide
  obtain ⟨_,i,z,hi,hsz,hby,hz,hzz⟩ := td_spec he
  have envk : EnvOK G w (killS k st.env) (av a) := ⟨fun t => killS_rep H.env _ t,fun t s n xs e => H.env.2 t s n xs (killS_own e).1⟩
  by_cases hgr : cap < n + m
  · -- a new row
    have hrun := run_append_more (P := cx.P) (w := w) t t2 ty e dt d2 de z i hd hde he hi hz hd2 hn2 b n cap olds o3 yv m news hsrc hgr h6 h5
    have hge := grownCap_ge w (n + m) cap e
    have hcm' : grownCap w (n + m) cap e ≤ maxLen := grownCap_le_maxLen w (n + m) cap e (by omega)
    obtain ⟨W,E⟩ := WorldOK.commit (w' := w.drew.alloc (.cells (olds ++ news ++ (Builtin.zeroCells z.cells (grownCap w (n + m) cap e - (n + m))).toList).toArray e)) H.ok (olds ++ news) (some d)
      _ e (0,0) rfl rfl rfl rfl (by
        intro j u hu
        simp only [List.getElem?_toArray]
        rw [List.getElem?_append_left (List.getElem?_eq_some_iff.1 hu).1]
        exact hu)
    have le := E.le H.ok
    refine ⟨_,_,_,hrun,⟨?_,?_,W,E.env H.ok envk,E.frm H.ok⟩⟩
    · simp only [Rep]
      refine ⟨_,_,rfl,hge,hcm',by simp,.inr ⟨w.heap.size,0,rfl,?_⟩⟩
      refine repK_of ((o2.append hry).mono le) ?_ ?_
      · intro u hu
        rcases List.mem_append.1 hu with hu | hu
        · exact o3.2.2 u hu
        · exact hsrc.2.2 u hu
      · intro j u hu
        simp only [setT,Sx.commit,Nat.zero_add,if_true]
        exact hu
    · intro s' n' xs' e'
      cases e'
      refine .inr ⟨w.heap.size,_,_,e,rfl,by simp [setT],World.heap_new w.drew _,?_,fun q hq => ?_,fun b' hb' => ?_⟩
      · simp only [List.size_toArray,List.length_append,Array.length_toList,size_zeroCells']
        have hzl : z.cells.size = de.size := by rw [← h4,← hzz]; simp
        rw [o1,hnl,h1,h2,hzl,← Nat.add_mul,← Nat.add_mul]
        congr 1
        omega
      · simp only [setT,Sx.commit,if_true]
        rw [List.getElem?_eq_none]
        simp only [List.length_append,o1,hnl,h1,h2,← Nat.add_mul]
        exact hq
      · have : G.μ b' = some w.heap.size := hb'
        have := H.ok.μlt this
        omega
  · have hfit : n + m ≤ cap := by omega
    have nothing : ∀ (hm0 : m = 0) (hOwn : ∃ G',G.Le G' ∧ WorldOK G' st.h w ∧ Frm G w G' w ∧ EnvOK G' w (killS k st.env) (av a) ∧ OwnRow G' w d (.slice b n cap) de.size n)
        (hrun : (Builtin.append_ #[t,t2] ty #[.slice b n cap,yv]).run cx.P w = .ok (.slice b n cap) w),
        ∃ v w' G',(Builtin.append_ #[t,t2] ty #[.slice b n cap,yv]).run cx.P w = .ok v w' ∧ Out G w ⟨killS k st.env,st.h⟩ (av a) d (.sl (.own de.size) (n + m) (xs ++ ys)) v G' w' := by
      intro hm0 hOwn hrun
      obtain ⟨G',le,W,F,Ev,O⟩ := hOwn
      have hy0 : ys = [] := List.eq_nil_of_length_eq_zero (by rw [h2,hm0,Nat.zero_mul])
      subst hm0
      refine ⟨_,_,G',hrun,⟨?_,?_,W,Ev,F⟩⟩
      · have : Rep G (.sl (.own de.size) n xs) (.slice b n cap) := by
          simp only [Rep]
          exact ⟨b,cap,rfl,hnc,hcm,by simp,hk⟩
        simpa [hy0] using this.mono le
      · intro s' n' xs' e'
        simp only [Nat.add_zero] at e'
        cases e'
        exact O
    by_cases hcn : cap = n
    · have hm0 : m = 0 := by omega
      have hn0 : news = [] := List.eq_nil_of_length_eq_zero (by rw [hnl,h2,hm0,Nat.zero_mul])
      subst hcn
      refine nothing hm0 ⟨G,.refl G,H.ok,Frm.refl G w,envk,.inl ⟨b,rfl⟩⟩ (run_append_nothing t t2 ty e dt d2 de hd hde he hd2 hn2 b _ yv ?_)
      rw [hm0,hn0] at hsrc
      exact hsrc
    · rcases hstart with hs | ⟨p,rfl,O⟩
      · exact absurd hs hcn
      rcases O with ⟨ad,hO⟩ | ⟨g,cap',cur,e',a1,a2,a3,a4,a5,a6⟩
      · cases hO; exact absurd rfl hcn
      cases a1
      have hcur : (n + m) * de.size ≤ cur.size := by rw [a4]; exact Nat.mul_le_mul_right _ hfit
      have hrun := run_append_fit (P := cx.P) (w := w) t t2 ty e dt d2 de hd hde he hd2 hn2 g n cap cur e' (by rw [a3]; exact .of) yv m news hsrc (by rw [hnl,h2]) hfit hcur
      have hnd : n * de.size + news.length = (n + m) * de.size := by rw [hnl,h2,Nat.add_mul]
      have htl : (cur.toList.take (n * de.size)).length = n * de.size := by
        rw [List.length_take,Array.length_toList]; omega
      obtain ⟨W,F,Ow⟩ := inplace (G := G) (cur' := (cur.toList.take (n * de.size) ++ news ++ cur.toList.drop (n * de.size + news.length)).toArray) (hi := (n + m) * de.size) (q := d) H.ok a2 a3 a5 a6 (by
        intro j hj
        simp only [List.getElem?_toArray]
        rw [List.append_assoc,List.getElem?_append_left (by rw [htl]; exact hj),List.getElem?_take,if_pos hj]
        simp)
      have le := F.le
      refine ⟨_,_,_,hrun,⟨?_,?_,W,⟨fun t => (envk.1 t).mono le,fun t s' n' xs' e'' => ?_⟩,F⟩⟩
      · simp only [Rep]
        refine ⟨_,_,rfl,hfit,hcm,by simp,.inr ⟨g,0,rfl,?_⟩⟩
        rcases hk with hk | ⟨blk,off,hb,hk⟩
        · have hx0 : n * de.size = 0 := by rw [← h1,hk]; rfl
          subst hk
          refine repK_of (hry.mono le) hsrc.2.2 fun j u hu => ?_
          have hj : j < news.length := (List.getElem?_eq_some_iff.1 hu).1
          simp only [more,Nat.zero_add]
          rw [if_pos ⟨trivial,by omega,by omega⟩]
          simp only [List.getElem?_toArray]
          rw [hx0]
          simp [List.getElem?_append_left hj,hu]
        · cases hb
          refine RepK.append (hk.mono le) (repK_of (hry.mono le) hsrc.2.2 fun j u hu => ?_)
          have hj : j < news.length := (List.getElem?_eq_some_iff.1 hu).1
          simp only [more,Nat.zero_add,h1]
          rw [if_pos ⟨trivial,by omega,by omega⟩]
          simp only [List.getElem?_toArray]
          rw [List.append_assoc,List.getElem?_append_right (by rw [htl]; omega),htl,Nat.add_sub_cancel_left,List.getElem?_append_left hj]
          exact hu
      · intro s' n' xs' e''
        cases e''
        refine .inr ⟨g,cap,_,e',rfl,by simp [more],setRow_heap w g cur _ e' (0,0) a3,?_,fun q hq => ?_,a6⟩
        · simp only [List.size_toArray,List.length_append,List.length_drop,Array.length_toList,htl]
          rw [← a4]; omega
        · simp only [more]
          rw [if_neg (by omega)]
          exact a5 q (Nat.le_trans (Nat.mul_le_mul_right _ (by omega)) hq)
      · obtain ⟨e1,e2⟩ := killS_own (env := st.env) (k := some p) e''
        have hpt : p ≠ t := by simpa using e2
        exact Ow _ _ _ _ (by simp; exact fun x => hpt x.symm) (H.env.2 t s' n' xs' e1)
end
end Go.Sx
namespace Go.Sx
open Go.RowKit
section
variable {cx : Cx} {G : Gh} {h : Hp} {w : World} {st : St} {a : Act} {o : Oper} {P : Program}
theorem fill_fold (off : Nat) : ∀ (l : List Value) (k : Nat) (cs : Array Value),off + k + l.length ≤ cs.size →
    ((l.zipIdx k).foldl (fun cs (x : Value × Nat) => cs.setIfInBounds (off + x.2) x.1) cs).toList = cs.toList.take (off + k) ++ l ++ cs.toList.drop (off + k + l.length)
  | [],k,cs,_ => by simp
  | v :: l,k,cs,hl => by
    simp only [List.zipIdx_cons,List.foldl_cons]
    rw [fill_fold off l (k + 1) (cs.setIfInBounds (off + k) v) (by simp at hl ⊢; omega)]
    have e := list_seg_step cs.toList (off + k) v l (by simp at hl ⊢; omega)
    simpa [Array.toList_setIfInBounds,Nat.add_assoc,Nat.add_comm 1] using e
theorem RepL.splice {xs ys : List C} {vs us : List Value} (hx : RepL G xs vs) (hy : RepL G ys us) (off : Nat) : RepL G (splice xs off ys) (vs.take off ++ us ++ vs.drop (off + us.length)) := by
  unfold Sx.splice
  rw [hy.length]
  exact ((hx.take off).append hy).append (hx.drop _)
theorem lay_fill {pl : Nat → Option (Nat × Nat)} : ∀ (parts : List (Nat × C)) (vals : List (Nat × Value)) (cells out : List C) (cs : Array Value),
    parts.map (·.1) = vals.map (·.1) → (∀ (i : Nat) (c : C) (v : Value),(parts.map (·.2))[i]? = some c → (vals.map (·.2))[i]? = some v → Rep G c v) →
    RepL G cells cs.toList → (∀ u ∈ cs.toList,u.oneCell' = true) → lay pl cells parts = some out →
    ∃ cs',Instr.fill pl cs vals = some cs' ∧ RepL G out cs'.toList ∧ ∀ u ∈ cs'.toList,u.oneCell' = true
  | [],vals,cells,out,cs,hm,_,hr,h1,h => by
    cases vals with
    | nil => simp only [lay,Option.some.injEq] at h; subst h; exact ⟨cs,rfl,hr,h1⟩
    | cons => simp at hm
  | (i,c) :: parts,vals,cells,out,cs,hm,hv,hr,h1,h => by
    cases vals with
    | nil => simp at hm
    | cons x vals =>
      obtain ⟨j,v⟩ := x
      simp only [List.map_cons,List.cons.injEq] at hm
      obtain ⟨rfl,hm⟩ := hm
      simp only [lay] at h
      split at h
      · rename_i off size ccs hpl hcs
        split at h
        · rename_i hb
          obtain ⟨q1,q2⟩ := cells?_rep hcs (hv 0 c v (by simp) (by simp))
          have hsz : v.cells.size = size := by rw [← hb.1,q1.length]; simp
          have hcl : cells.length = cs.size := by rw [hr.length]; simp
          have hfit : off + v.cells.size ≤ cs.size := by rw [hsz]; omega
          have hfold := fill_fold off v.cells.toList 0 cs (by simpa using hfit)
          simp only [Nat.add_zero] at hfold
          simp only [Instr.fill,hpl]
          rw [if_neg (by simp [hsz]; omega)]
          have hfe : (v.cells.zipIdx.foldl (fun cs (x : Value × Nat) => cs.setIfInBounds (off + x.2) x.1) cs) = (v.cells.toList.zipIdx.foldl (fun cs (x : Value × Nat) => cs.setIfInBounds (off + x.2) x.1) cs) := by
            rw [← Array.foldl_toList]; simp
          refine lay_fill parts vals _ out _ hm (fun k c' v' hc' hv' => hv (k + 1) c' v' (by simpa using hc') (by simpa using hv')) ?_ ?_ h
          · rw [hfe,hfold]
            exact hr.splice q1 off
          · intro u hu
            rw [hfe,hfold] at hu
            rcases List.mem_append.1 hu with hu | hu
            · rcases List.mem_append.1 hu with hu | hu
              · exact h1 u (List.mem_of_mem_take hu)
              · exact q2 u hu
            · exact h1 u (List.mem_of_mem_drop hu)
        · cases h
      · cases h
theorem zero_rep {z : Value} {zs : List Value} (hz : z.cells.toList = zs) : RepL G (zs.map .val) z.cells.toList := by
  rw [hz]
  refine RepL.of_get (by simp) fun i x v hx hv => ?_
  rw [List.getElem?_map,hv] at hx
  cases hx
  exact rep_val.2 rfl
theorem places_info : ∀ (fs : List Field) (pl : List (Nat × Nat)),fs.mapM (fun f => (td P f.type).map fun d => (f.offset,d.size)) = some pl →
    fs.mapM (fun f => (P.info? f.type).map fun i => (f.offset,i.size)) = some pl
  | [],pl,h => by simpa using h
  | f :: fs,pl,h => by
    simp only [List.mapM_cons,Option.bind_eq_bind,Option.pure_def] at h ⊢
    cases ht : td P f.type with
    | none => simp [ht] at h
    | some d =>
      obtain ⟨_,i,_,hi,hs,_⟩ := td_spec ht
      cases hr : fs.mapM (fun f => (td P f.type).map fun d => (f.offset,d.size)) with
      | none => simp [ht,hr] at h
      | some rest =>
        have := places_info fs rest hr
        simp [ht,hr] at h
        simp [hi,hs,this,h]
theorem build_ok (H : Pre cx G w st a) {t : TypeId} {d : TD} {parts : Array (Nat × Operand)} {cs : List C} (hd : td cx.P t = some d) (hz1 : d.zero.all (·.oneCell') = true)
    (h : ((places cx.P d.u).bind fun pl => lay pl (d.zero.map .val) (parts.toList.map fun x => (x.1,cx.evn st.env x.2))) = some cs) :
    ∃ v,(Instr.build t (parts.map fun (i,x) => (i,a.eval x))).run cx.P w = .ok v w ∧ Rep G (.agg cs) v := by
  obtain ⟨hu,it,z,hi,_,_,hz,hzz⟩ := td_spec hd
  cases hp : places cx.P d.u with
  | none => rw [hp] at h; cases h
  | some pl =>
    rw [hp] at h
    simp only [Option.bind_some] at h
    obtain ⟨cs',f1,f2,f3⟩ := lay_fill (G := G) (parts.toList.map fun x => (x.1,cx.evn st.env x.2)) (parts.toList.map fun x => (x.1,a.eval x.2)) _ cs z.cells
      (by simp) (by
        intro i c v hc hv
        simp only [List.map_map,List.getElem?_map] at hc hv
        cases hx : parts.toList[i]? with
        | none => rw [hx] at hc; cases hc
        | some x =>
          rw [hx] at hc hv
          cases hc; cases hv
          exact H.evn x.2)
      (zero_rep hzz) (fun u hu => by rw [hzz] at hu; exact (List.all_eq_true.1 hz1) u hu) h
    refine ⟨.agg cs',run_build w t _ cs' ?_,by simp only [Rep]; exact ⟨cs',rfl,f2,f3⟩⟩
    have hpt : (parts.map fun (i,x) => (i,a.eval x)).toList = parts.toList.map fun x => (x.1,a.eval x.2) := by simp
    rw [hpt]
    unfold Program.built
    unfold places at hp
    split at hp
    · rename_i fields hs
      cases hm : fields.toList.mapM (fun f => (td cx.P f.type).map fun d => (f.offset,d.size)) with
      | none => rw [hm] at hp; cases hp
      | some l =>
        rw [hm] at hp
        cases hp
        rw [hi,hu,hs]
        simp only [hz,places_info _ _ hm]
        have : (fun x : Nat => l.toArray[x]?) = fun i => l[i]? := by funext x; simp
        rw [this]
        exact f1
    · rename_i n e hs
      cases he : td cx.P e with
      | none => rw [he] at hp; cases hp
      | some de =>
        rw [he] at hp
        cases hp
        obtain ⟨_,ie,_,hie,hsz,_⟩ := td_spec he
        rw [hi,hu,hs]
        simp only [hz,hie,hsz]
        exact f1
    · cases hp
theorem madeCells_step (z : Array Value) (n : Nat) : (madeCells z ((n + 1) * z.size)).toList = z.toList ++ (madeCells z (n * z.size)).toList := by
  apply List.ext_getElem?
  intro i
  simp only [madeCells,Array.toList_map,Array.toList_range,List.getElem?_map]
  by_cases hi : i < z.size
  · rw [List.getElem?_append_left (by simpa using hi)]
    have h2 : i < (n + 1) * z.size := by rw [Nat.succ_mul]; omega
    simp [List.getElem?_range h2,Nat.mod_eq_of_lt hi,hi]
  · rw [List.getElem?_append_right (by simpa using hi)]
    simp only [Array.length_toList,List.getElem?_map]
    have hmul : (n + 1) * z.size = n * z.size + z.size := Nat.succ_mul n z.size
    by_cases h2 : i < (n + 1) * z.size
    · have h3 : i - z.size < n * z.size := by omega
      rw [List.getElem?_range h2,List.getElem?_range h3]
      simp only [Option.map_some,Option.some.injEq]
      rw [Nat.mod_eq_sub_mod (by omega)]
    · rw [List.getElem?_eq_none (by simpa using h2),List.getElem?_eq_none (by simp; omega)]
theorem repZero_rep (z : Array Value) (zs : List Value) (hz : z.toList = zs) : ∀ n,RepL G (repZero zs n) (madeCells z (n * z.size)).toList
  | 0 => by simp [repZero,madeCells,RepL]
  | n + 1 => by
    rw [madeCells_step]
    simp only [repZero]
    refine RepL.append ?_ (repZero_rep z zs hz n)
    subst hz
    refine RepL.of_get (by simp) fun i x v hx hv => ?_
    rw [List.getElem?_map,hv] at hx
    cases hx
    exact rep_val.2 rfl
theorem made_one (z : Array Value) (h1 : ∀ u ∈ z.toList,u.oneCell' = true) : ∀ n,∀ u ∈ (madeCells z (n * z.size)).toList,u.oneCell' = true
  | 0 => by simp [madeCells]
  | n + 1 => by
    rw [madeCells_step]
    intro u hu
    rcases List.mem_append.1 hu with hu | hu
    · exact h1 u hu
    · exact made_one z h1 n u hu
theorem buildSlice_run (H : Pre cx G w st a) {t e : TypeId} {d de : TD} {n : Nat} {parts : Array (Nat × Operand)} {cs : List C} (hd : td cx.P t = some d) (hu : d.u = .slice e) (he : td cx.P e = some de)
    (hz1 : de.zero.all (·.oneCell') = true) (hn : n * de.size ≤ 65536 ∧ n ≤ 65536 ∧ de.zero.length = de.size)
    (h : lay (fun i => some (i * de.size,de.size)) (repZero de.zero n) (parts.toList.map fun x => (x.1,cx.evn st.env x.2)) = some cs) :
    ∃ cs' : Array Value,RepL G cs cs'.toList ∧ (∀ u ∈ cs'.toList,u.oneCell' = true) ∧ (Instr.buildSlice t n (parts.map fun (i,x) => (i,a.eval x))).run cx.P w = .ok (.slice (some ⟨w.heap.size,0,none⟩) n n) (w.alloc (.cells cs' e)) := by
  obtain ⟨_,it,z,hi,hsz,_,hz,hzz⟩ := td_spec he
  have hzs : z.cells.size = de.size := by rw [← hn.2.2,← hzz]; simp
  have hz1' : ∀ u ∈ z.cells.toList,u.oneCell' = true := fun u hu => by rw [hzz] at hu; exact (List.all_eq_true.1 hz1) u hu
  obtain ⟨cs',f1,f2,f3⟩ := lay_fill (G := G) (parts.toList.map fun x => (x.1,cx.evn st.env x.2)) (parts.toList.map fun x => (x.1,a.eval x.2)) _ cs (madeCells z.cells (n * de.size))
      (by simp) (by
        intro i c v hc hv
        simp only [List.map_map,List.getElem?_map] at hc hv
        cases hx : parts.toList[i]? with
        | none => rw [hx] at hc; cases hc
        | some x =>
          rw [hx] at hc hv
          cases hc; cases hv
          exact H.evn x.2)
      (by rw [← hzs]; exact repZero_rep z.cells de.zero hzz n) (by rw [← hzs]; exact made_one z.cells hz1' n) h
  have hpt : (parts.map fun (i,x) => (i,a.eval x)).toList = parts.toList.map fun x => (x.1,a.eval x.2) := by simp
  have hrun : (Instr.buildSlice t n (parts.map fun (i,x) => (i,a.eval x))).run cx.P w = .ok (.slice (some ⟨w.heap.size,0,none⟩) n n) (w.alloc (.cells cs' e)) := by
    unfold Instr.buildSlice
    have h24 : ¬ (16777216 < n * de.size) := by omega
    by_cases h0 : n * de.size = 0
    · have hm0 : (madeCells z.cells (n * de.size)) = #[] := by rw [h0]; simp [madeCells]
      rw [hm0] at f1
      simp [run_und hd,hu,run_size he,h0,newRow]
      have h00 : (Array.map (fun _ => (default : Value)) (Array.range 0)) = #[] := by simp
      rw [h00,f1]
      simp [newObj,Sem.run]
    · have hf : Instr.fill (fun i => some (i * de.size,de.size)) ((Array.range (n * de.size)).map fun x => z.cells[x % z.cells.size]!) (parts.toList.map fun x => (x.1,a.eval x.2)) = some cs' := f1
      simp [run_und hd,hu,run_size he,h0,h24,zeroValue,typeInfo,hi,hz,newRow]
      rw [hf]
      simp
  exact ⟨cs',f2,f3,hrun⟩
theorem buildSlice_ok (H : Pre cx G w st a) (dp : Place) {t e : TypeId} {d de : TD} {n : Nat} {parts : Array (Nat × Operand)} {cs : List C} (hd : td cx.P t = some d) (hu : d.u = .slice e) (he : td cx.P e = some de)
    (hz1 : de.zero.all (·.oneCell') = true) (hn : n * de.size ≤ 65536 ∧ n ≤ 65536 ∧ de.zero.length = de.size)
    (h : lay (fun i => some (i * de.size,de.size)) (repZero de.zero n) (parts.toList.map fun x => (x.1,cx.evn st.env x.2)) = some cs) :
    ∃ v w' G',(Instr.buildSlice t n (parts.map fun (i,x) => (i,a.eval x))).run cx.P w = .ok v w' ∧ Out G w st (av a) dp (.sl .full n cs) v G' w' := by
  obtain ⟨cs',f2,f3,hrun⟩ := buildSlice_run H hd hu he hz1 hn h
  obtain ⟨W,E⟩ := WorldOK.commit (w' := w.alloc (.cells cs' e)) H.ok cs'.toList none cs' e (0,0) rfl rfl rfl rfl (by intro j u hu; simpa using hu)
  have le := E.le H.ok
  refine ⟨_,_,_,hrun,⟨?_,by simp,W,E.env H.ok H.env,E.frm H.ok⟩⟩
  simp only [Rep]
  have hml : maxLen = 9223372036854775807 := by decide
  refine ⟨_,_,rfl,Nat.le_refl _,by omega,by simp,.inr ⟨w.heap.size,0,rfl,repK_of (f2.mono le) f3 fun j u hu => ?_⟩⟩
  simp only [setT,Sx.commit,if_true,Nat.zero_add]
  exact hu
theorem OpOK.new (H : Pre cx G w st a) {id : Nat} (hid : st.h[id]? = some none) {cells : List C} {vs : Array Value} {e : TypeId} {d : Place} {c : C} {v : Value}
    (hrun : (execOp a.eval o).run cx.P w = .ok (.value v) (w.alloc (.cells vs e))) (hr : RepL G cells vs.toList) (h1 : ∀ u ∈ vs.toList,u.oneCell' = true)
    (hno : ∀ x ∈ cells,x.noOwn) (hc : ∀ G',G'.μ id = some w.heap.size → G'.σ id = some (vs.size,e) → Rep G' c v) (hcn : c.noOwn) :
    OpOK cx.P o a G w ⟨st.env,st.h.set id (some cells)⟩ d c := by
  obtain ⟨W,E⟩ := WorldOK.newBox (w' := w.alloc (.cells vs e)) H.ok id hid cells vs e rfl hr h1 (by
    intro off s n xs hx
    have := hno _ (List.mem_of_getElem? hx)
    exact this)
  exact OpOK.of_run hrun ⟨_,hc _ (by simp [setμ]) (by simp [setμ]),fun s n xs e => by rw [e] at hcn; exact hcn.elim,W,E.env H.ok H.env,E.frm H.ok⟩
end
end Go.Sx
