/-
  
-/
import Derived.Test.YtcpdlhgkdogdjaaDoorRows
import Derived.Test.YtcpdlhgkdogdjaaDoorCards
import Derived.Test.YtcpdlhgkdogdjaaDoorTie
import Derived.SevenTiedAt
import Derived.Test.YtcpdlhgkdogdjaaDoorPax
import Derived.Test.YtcpdlhgkdogdjaaDoorPaj
set_option linter.unusedSimpArgs false
set_option linter.unusedVariables false
namespace Go.Proofs.YtcpdlhgkdogdjaaDoor
open Go.ChangeShapes Go.WideShapes Go.RowKit Go.Sx
theorem ownT : ownKnob Tryd.prog.godebug = none := by kernel_rfl
theorem loT : laidOutB Tryd.prog = true := by kernel_rfl
theorem mrT : mapsRowed Tryd.prog = true := by kernel_rfl
theorem slT : slicesB Tryd.prog = true := by kernel_rfl
theorem g0T : Tryd.prog.globalNamed "passim/work.nowhere" = some 0 := by kernel_rfl
theorem t0T : (Tryd.prog.globals[0]?).map (·.type) = some 34 := by kernel_rfl
theorem c34 : Tryd.prog.cellsOf 34 = 3 := by kernel_rfl
theorem c3 : Tryd.prog.cellsOf 3 = 1 := by kernel_rfl
theorem glob_id {W : World} {n : String} {g fuel : Nat} {enc : TypeId × Value → Unit} {sp : Nat → Bool} {held : Bool} {cs : Array Value} {p : List MemPlace} {a b c : Int}
    (hg : Tryd.prog.globalNamed n = some g) (hv : W.var? Tryd.prog n = some cs)
    (h : DataW.trod enc Tryd.prog W 0 sp held fuel 34 cs.toList = some (.agg [.lit (.int .i64 a),.lit (.int .i64 b),.lit (.int .i64 c)],p)) : Rep (GW W) (.kp (iD (a,b,c))) (.pointer (some ⟨g,0,none⟩)) := by
  obtain ⟨xs,m,_,hx,hl,hlen,hf⟩ := DataW.trod_struct (td_spec td34).1 h
  rw [c34] at hl
  have each : ∀ i,i < 3 → ∃ z,cs.toList[i]? = some (.int .i64 z) ∧ (xs.map (·.1))[i]? = some (.lit (.int .i64 z)) := fun i hi => by
    have hfi : ∃ fd : Field, (#[Field.mk "By" 3 0 false "" "" 0, Field.mk "Seq" 3 1 false "" "" 8, Field.mk "K" 3 2 false "" "" 16])[i]? = some fd ∧ fd.type = 3 ∧ fd.offset = i := by
      rcases i with _ | _ | _ | i
      · exact ⟨_,rfl,rfl,rfl⟩
      · exact ⟨_,rfl,rfl,rfl⟩
      · exact ⟨_,rfl,rfl,rfl⟩
      · omega
    obtain ⟨fd,h1,h2,h3⟩ := hfi
    have h4 := hf i fd h1
    rw [h2,h3,c3] at h4
    have hi2 : i < xs.length := by rw [hlen]; exact hi
    rw [List.getElem?_eq_getElem hi2] at h4
    obtain ⟨z,h5,h6,_⟩ := DataW.trod_int (td_spec td3).1 h4
    refine ⟨z,?_,?_⟩
    · have h7 := congrArg (fun l => l[0]?) h5
      simpa [List.getElem?_take,List.getElem?_drop] using h7
    · rw [List.getElem?_map,List.getElem?_eq_getElem hi2,h6]; rfl
  simp only [Prod.mk.injEq,DataW.agg.injEq] at hx
  rw [← hx.1] at each
  simp only [Rep]
  refine ⟨g,0,rfl,RepK.of_get fun i x hx => ?_⟩
  have hi : i < 3 := by
    have := (List.getElem?_eq_some_iff.1 hx).1
    exact this
  obtain ⟨z,h1,h2⟩ := each i hi
  refine ⟨.int .i64 z,?_,rfl,?_⟩
  · show W.cell? ⟨g,0 + i,none⟩ = _
    rw [World.var?_cell hg hv,Nat.zero_add,← Array.getElem?_toList,h1]
  · rcases i with _ | _ | _ | i
    · cases h2; cases hx; exact rep_val.2 rfl
    · cases h2; cases hx; exact rep_val.2 rfl
    · cases h2; cases hx; exact rep_val.2 rfl
    · omega
theorem d0T : (Rows.laid_passim_work_nowhere : DataW Unit) = .agg [.lit (.int .i64 (-1)),.lit (.int .i64 0),.lit (.int .i64 0)] := rfl
abbrev laid1 : List (String × DataW Unit) := [("passim/work.nowhere", Rows.laid_passim_work_nowhere)]
theorem gl1 (W : World) (h : laidMetH Tryd.prog laid1 W) : ∀ g,Rep (GW W) (glN g) (.pointer (some ⟨g,0,none⟩)) := by
  rw [MakeChecks.laidMetH_plain _ _ _ (by kernel_rfl)] at h
  obtain ⟨ps,⟨g1,t1,cs1,f1,p1,q1,hg1,ht1,hv1,hd1,_,_⟩,_,_⟩ := h
  obtain rfl := Option.some.inj (g0T.symm.trans hg1)
  obtain rfl := Option.some.inj (t0T.symm.trans ht1)
  rw [d0T] at hd1
  intro g
  unfold glN
  split
  · rename_i hg
    subst hg
    exact glob_id hg1 hv1 hd1
  · simp [Rep]
theorem met1 (os : Os) (args : Array Value) : laidMetH Tryd.prog laid1 ((World.doorLaid Tryd.prog 400 os).forCall (fun _ _ => 0) ⟨#[],args,[]⟩).memory := by
  rw [MakeChecks.laidMetH_plain _ _ _ (by kernel_rfl)]
  exact laidMet_of_run' 8 (by kernel_rfl) (by kernel_rfl)
theorem a3 : AR Tryd.prog 3 (fun n : Int => .val (.int .i64 n)) fun n => -9223372036854775808 ≤ n ∧ n ≤ 9223372036854775807 := ar_int td3
set_option maxRecDepth 100000
theorem gtI_get {α : Type} [Inhabited α] {l : List α} {i : Nat} (h : i < l.length) : gt l i = l[i] := by simp [gt,List.getD,List.getElem?_eq_getElem h]
theorem LI_of {l : List Int} (h : l.length ≤ 9223372036854775807 ∧ ∀ a ∈ l,-9223372036854775808 ≤ a ∧ a ≤ 9223372036854775807) : LI l := ⟨h.1,fun i hi => by rw [gtI_get hi]; exact h.2 _ (List.getElem_mem hi)⟩
theorem a22 : AR Tryd.prog 22 (fun l : List Int => sl iC .no l) LI := fun h1 h2 => by
  obtain ⟨l,q1,q2⟩ := ar_slice td22 c3 (rds_int (td_spec td3).1) h1 h2
  exact ⟨l,LI_of q1,q2⟩
end Go.Proofs.YtcpdlhgkdogdjaaDoor
