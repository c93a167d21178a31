/-
  Package sign: all contracts together (of the laws that read one constant). And what follows.
-/
import Derived.Test.YthjamgmeehjfmaaDoorRows
import Derived.Test.YthjamgmeehjfmaaDoorCards
import Derived.Test.YthjamgmeehjfmaaDoorTie
import Derived.SevenTiedAt
import Derived.Test.YthjamgmeehjfmaaDoorPaw
import Derived.Test.YthjamgmeehjfmaaDoorPan
import Derived.Test.YthjamgmeehjfmaaDoorPao
import Derived.Test.YthjamgmeehjfmaaDoorPap
import Derived.Test.YthjamgmeehjfmaaDoorPaq
import Derived.Test.YthjamgmeehjfmaaDoorPar
import Derived.Test.YthjamgmeehjfmaaDoorPas
import Derived.Test.YthjamgmeehjfmaaDoorPav
import Derived.Test.YthjamgmeehjfmaaDoorPax
import Derived.Test.YthjamgmeehjfmaaDoorPal
set_option linter.unusedSimpArgs false
set_option linter.unusedVariables false
namespace Go.Sx.TB
open Go.RowKit Go.Proofs
end Go.Sx.TB
namespace Go.Proofs.YthjamgmeehjfmaaDoor
open Go.ChangeShapes Go.WideShapes Go.RowKit Go.Sx
theorem ownT : ownKnob Tryd.prog.godebug = none := by kernel_rfl
theorem loT : laidOutB Tryd.prog = true := by kernel_rfl
theorem mrT : mapsRowed Tryd.prog = true := by kernel_rfl
theorem slT : slicesB Tryd.prog = true := by kernel_rfl
theorem g0T : Tryd.prog.globalNamed "passim/passimref02.constants" = some 0 := by kernel_rfl
theorem g1T : Tryd.prog.globalNamed "passim/hash.constants" = some 1 := by kernel_rfl
theorem t0T : (Tryd.prog.globals[0]?).map (·.type) = some 103 := by kernel_rfl
theorem t1T : (Tryd.prog.globals[1]?).map (·.type) = some 103 := by kernel_rfl
theorem c103 : Tryd.prog.cellsOf 103 = 64 := by kernel_rfl
theorem c81 : Tryd.prog.cellsOf 81 = 1 := by kernel_rfl
theorem d0T : (Rows.laid_passim_passimref02_constants : DataW Unit) = .agg ((kc.map fun w => (w.toNat : Int)).map fun m => .lit (.int .u32 m)) := by kernel_rfl
theorem d1T : (Rows.laid_passim_hash_constants : DataW Unit) = .agg ((kc.map fun w => (w.toNat : Int)).map fun m => .lit (.int .u32 m)) := by kernel_rfl
abbrev laid2 : List (String × DataW Unit) := [("passim/passimref02.constants", Rows.laid_passim_passimref02_constants), ("passim/hash.constants", Rows.laid_passim_hash_constants)]
theorem gl2 (W : World) (h : laidMetH Tryd.prog laid2 W) : ∀ g, Rep (GW W) (glH g) (.pointer (some ⟨g, 0, none⟩)) := by
  rw [MakeChecks.laidMetH_plain _ _ _ (by kernel_rfl)] at h
  obtain ⟨ps, ⟨g0, t0, cs0, f0, p0, q0, hg0, ht0, hv0, hd0, ⟨g1, t1, cs1, f1, p1, q1, hg1, ht1, hv1, hd1, _, _⟩, _⟩, _, _⟩ := h
  obtain rfl := Option.some.inj (g0T.symm.trans hg0)
  obtain rfl := Option.some.inj (g1T.symm.trans hg1)
  obtain rfl := Option.some.inj (t0T.symm.trans ht0)
  obtain rfl := Option.some.inj (t1T.symm.trans ht1)
  rw [d0T] at hd0
  rw [d1T] at hd1
  intro g
  unfold glH
  split
  · rename_i hg
    rcases hg with rfl | rfl
    · exact glob_words hg0 hv0 (td_spec td103).1 (td_spec td81).1 c81 c103 hd0
    · exact glob_words hg1 hv1 (td_spec td103).1 (td_spec td81).1 c81 c103 hd1
  · simp [Rep]
theorem met2 (os : Os) (args : Array Value) : laidMetH Tryd.prog laid2 ((World.doorLaid Tryd.prog 400 os).forCall (fun _ _ => 0) ⟨#[], args, []⟩).memory := by
  rw [MakeChecks.laidMetH_plain _ _ _ (by kernel_rfl)]
  exact laidMet_of_run' 8 (by kernel_rfl) (by kernel_rfl)
theorem a9 : AR Tryd.prog 9 (fun l : List UInt8 => .val (str l)) fun l => l.length ≤ 9223372036854775807 := ar_str td9
theorem a5 : AR Tryd.prog 5 (fun l : UInt8 => .val (w8 l)) fun _ => True := ar_u8 td5
end Go.Proofs.YthjamgmeehjfmaaDoor
