/-
  Package token: the statements' rows.
-/
import Derived.Test.YtmeplkkhnpcldaaRows
import Derived.Test.YtmeplkkhnpcldaaPay
import Derived.Test.YtmeplkkhnpcldaaPaj
set_option linter.unusedSimpArgs false
set_option linter.unusedVariables false
namespace Go.Proofs.Ytmeplkkhnpcldaa
open Go.ChangeShapes Go.WideShapes Go.RowKit Go.Sx
theorem ownT : ownKnob Try.prog.godebug = none := by kernel_rfl
theorem loT : laidOutB Try.prog = true := by kernel_rfl
theorem mrT : mapsRowed Try.prog = true := by kernel_rfl
theorem slT : slicesB Try.prog = true := by kernel_rfl
theorem c3 : Try.prog.cellsOf 3 = 1 := by kernel_rfl
def glN : Nat → C := fun _ => .top
theorem glN_ok (W : World) (g : Nat) : Rep (GW W) (glN g) (.pointer (some ⟨g, 0, none⟩)) := by simp [glN, Rep]
theorem glN_noRef : ∀ g, noRef 0 (glN g) = true := fun _ => rfl
theorem trods_nil2 {H : Type} {enc : TypeId × Value → H} {P : Program} {W : World} {b : Nat} {sp : Nat → Bool} {hd : Bool} {vs : List Value} {ds : List (DataW H)} {ps : List MemPlace}
    (h : DataW.TrodAll enc P W b sp hd [] vs ds ps) : ds = [] := by
  cases vs <;> cases ds <;> simp only [DataW.TrodAll] at h <;> rfl
theorem x3 : AX Try.prog 3 (fun n : Int => .val (.int .i64 n)) RI := ax_int td3
theorem x9 : AX Try.prog 9 (fun l : List UInt8 => .val (str l)) RS := ax_str td9
theorem x22 : AX Try.prog 22 (fun l : List Int => sl iC .no l) (RL RI) := ax_slice td22 c3 (rdx_int (td_spec td3).1)
theorem ints_LI {l : List Int} {H : Type} {d : DataW H} (h : RL RI l H d) : LI l := by
  rcases h with ⟨rfl, _⟩ | ⟨e, s, _, h1, h2, h3⟩
  · exact ⟨by simp, fun i hi => by simp at hi⟩
  · refine ⟨h1, fun i hi => ?_⟩
    have hq : l[i]? = some (gt l i) := by simp [gt, List.getD, List.getElem?_eq_getElem hi]
    exact (h3 i _ _ hq (List.getElem?_eq_getElem (by omega))).1
end Go.Proofs.Ytmeplkkhnpcldaa
