/-
  
-/
import Derived.Test.YtmoaeemdlompaaaDoorRows
import Derived.Test.YtmoaeemdlompaaaDoorCards
import Derived.Test.YtmoaeemdlompaaaDoorTie
import Derived.SevenTiedAt
import Derived.Test.YtmoaeemdlompaaaDoorPaw
import Derived.Test.YtmoaeemdlompaaaDoorPaj
set_option linter.unusedSimpArgs false
set_option linter.unusedVariables false
namespace Go.Proofs.YtmoaeemdlompaaaDoor
open Go.ChangeShapes Go.WideShapes Go.RowKit Go.Sx
theorem aaK:ownKnob Tryd.prog.godebug=none:=by kernel_rfl
theorem loT:laidOutB Tryd.prog=true:=by kernel_rfl
theorem mrT:mapsRowed Tryd.prog=true:=by kernel_rfl
theorem slT:qf Tryd.prog=true:=by kernel_rfl
theorem g0T:Tryd.prog.globalNamed "passim/passimref02.constants" =some 0:=by kernel_rfl
theorem g1T:Tryd.prog.globalNamed "passim/hash.constants" =some 2:=by kernel_rfl
theorem t0T: (Tryd.prog.globals[0]?).map (·.type) =some 162:=by kernel_rfl
theorem t1T: (Tryd.prog.globals[2]?).map (·.type) =some 162:=by kernel_rfl
theorem Sx.R4:Tryd.prog.cellsOf 162=64:=by kernel_rfl
theorem Sx.R5:Tryd.prog.cellsOf 151=1:=by kernel_rfl
theorem c3:Tryd.prog.cellsOf 3=1:=by kernel_rfl
theorem d0T: (Rows.laid_passim_passimref02_constants:DataW Unit) = .agg ((kc.map fun w=> (w.toNat:Int)).map fun m=> .lit (.int .u32 m)) :=by kernel_rfl
theorem d1T: (Rows.laid_passim_hash_constants:DataW Unit) = .agg ((kc.map fun w=> (w.toNat:Int)).map fun m=> .lit (.int .u32 m)) :=by kernel_rfl
abbrev wa:List (String×DataW Unit) := [("passim/passimref02.constants",Rows.laid_passim_passimref02_constants),("passim/hash.constants",Rows.laid_passim_hash_constants)]
theorem gl2 (W:World) (h:laidMetH Tryd.prog wa W) : ∀g,Rep (GW W) (xq g) (.pointer (some ⟨g,0,none⟩)) :=by
 rw[MakeChecks.laidMetH_plain _ _ _ (by kernel_rfl)] at h
 obtain ⟨ps,⟨g0,t0,cs0,f0,p0,q0,hg0,ht0,hv0,hd0,⟨g1,t1,cs1,f1,p1,q1,hg1,ht1,hv1,hd1,_,_⟩,_⟩,_,_⟩ :=h
 obtain rfl:=Option.some.inj (g0T.symm.trans hg0)
 obtain rfl:=Option.some.inj (g1T.symm.trans hg1)
 obtain rfl:=Option.some.inj (t0T.symm.trans ht0)
 obtain rfl:=Option.some.inj (t1T.symm.trans ht1)
 rw[d0T] at hd0
 rw[d1T] at hd1
 intro g
 unfold xq
 split
 · rename_i hg
   rcases hg with rfl|rfl
   · exact sG hg0 hv0 (ch Bc).1 (ch Bb).1 Sx.R5 Sx.R4 hd0
   · exact sG hg1 hv1 (ch Bc).1 (ch Bb).1 Sx.R5 Sx.R4 hd1
 · simp[Rep]
theorem aaL (os:Os) (args:Array Value) :laidMetH Tryd.prog wa ((World.doorLaid Tryd.prog 400 os).forCall (fun _ _=>0) ⟨#[],args,[]⟩).memory:=by
 rw[MakeChecks.laidMetH_plain _ _ _ (by kernel_rfl)]
 exact laidMet_of_run' 8 (by kernel_rfl) (by kernel_rfl)
theorem a3:AR Tryd.prog 3 (fun n:Int=> .val (.int .i64 n)) fun n=> -9223372036854775808≤n∧n≤9223372036854775807:=Ug qs
set_option maxRecDepth 100000
theorem LF {α:Type} [Inhabited α] {l:List α} {i:Nat} (h:i< l.length) :gt l i=l[i] :=by simp[gt,List.getD,List.getElem?_eq_getElem h]
theorem Sx.WK {l:List Int} (h:l.length≤9223372036854775807∧∀a∈l,-9223372036854775808≤a∧a≤9223372036854775807) :LI l:= ⟨h.1,fun i hi=>by rw[LF hi];exact h.2 _ (List.getElem_mem hi)⟩
theorem Yf:AR Tryd.prog 22 (fun l:List Int=>sl iC .no l) LI:=fun h1 h2=>by
 obtain ⟨l,q1,q2⟩ :=HZ R7 c3 (zE (ch qs).1) h1 h2
 exact ⟨l,Sx.WK q1,q2⟩
end Go.Proofs.YtmoaeemdlompaaaDoor
