/-
  
-/
import Derived.Shelf.Small.Strs
import Derived.KernelRfl
import Derived.Test.YtmoaeemdlompaaaDoorProg
set_option linter.unusedSimpArgs false
set_option linter.unusedVariables false
namespace Go.Proofs
open Go.Shelf
def oP:Go.Shelf.Ren:=⟨fun|106=>90|213=>107|265=>114|n=>n,fun|n=>n,fun|n=>n⟩
theorem vI:Go.Proofs.Lays.n106 Tryd.prog oP:= {
 mixed:=by kernel_rfl
 f106:=Tryd.func90.trans (congrArg some (by kernel_rfl))
 f213:=Tryd.func107.trans (congrArg some (by kernel_rfl))
 f265:=Tryd.func114.trans (congrArg some (by kernel_rfl))
 t3:=Tryd.underlying3
 a3:=Tryd.isAgg3
 z3:=Tryd.sizeOf3
 v3:=Tryd.zeroValue3
 t9:=Tryd.underlying9
 a9:=Tryd.isAgg9
 z9:=Tryd.sizeOf9
 v9:=Tryd.zeroValue9 }
open Go.RowKit in
theorem Tryd.strings_Compare (a b:ByteArray)(w:World):
 Calls Tryd.prog 90 #[.string a,.string b] w fun e w'=>e= .returned (.int .i64 (Lib.compareBytes a.data.toList b.data.toList))∧w'=w:=Any.strings_Compare vI a b w
end Go.Proofs
