/-
  
-/
import Derived.Test.YtmoaeemdlompaaaDoorRows
import Derived.Test.YtmoaeemdlompaaaDoorCards
import Derived.Test.YtmoaeemdlompaaaDoorTie
import Derived.SevenTiedAt
import Derived.Test.YtmoaeemdlompaaaDoorPax
import Derived.Test.YtmoaeemdlompaaaDoorPaj
set_option linter.unusedSimpArgs false
set_option linter.unusedVariables false
namespace Go.Proofs.YtmoaeemdlompaaaDoor
open Go.ChangeShapes Go.WideShapes Go.RowKit Go.Sx
theorem aiV:ownKnob Tryd.prog.godebug=none:=by kernel_rfl
theorem loT:laidOutB Tryd.prog=true:=by kernel_rfl
theorem mrT:mapsRowed Tryd.prog=true:=by kernel_rfl
theorem slT:sb Tryd.prog=true:=by kernel_rfl
theorem g0T:Tryd.prog.globalNamed "passim/passimref02.constants" =some 0:=by kernel_rfl
theorem g1T:Tryd.prog.globalNamed "passim/hash.constants" =some 2:=by kernel_rfl
theorem t0T: (Tryd.prog.globals[0]?).map (·.type) =some 162:=by kernel_rfl
theorem t1T: (Tryd.prog.globals[2]?).map (·.type) =some 162:=by kernel_rfl
theorem YI:Tryd.prog.cellsOf 162=64:=by kernel_rfl
theorem YJ:Tryd.prog.cellsOf 151=1:=by kernel_rfl
theorem c5:Tryd.prog.cellsOf 5=1:=by kernel_rfl
theorem c3:Tryd.prog.cellsOf 3=1:=by kernel_rfl
theorem d0T: (Rows.laid_passim_passimref02_constants:DataW Unit) = .agg ((kc.map fun w=>(w.toNat:Int)).map fun m=> .lit (.int .u32 m)):=by kernel_rfl
theorem d1T: (Rows.laid_passim_hash_constants:DataW Unit) = .agg ((kc.map fun w=>(w.toNat:Int)).map fun m=> .lit (.int .u32 m)):=by kernel_rfl
abbrev y9:List (String×DataW Unit) := [("passim/passimref02.constants",Rows.laid_passim_passimref02_constants),("passim/hash.constants",Rows.laid_passim_hash_constants)]
theorem gl2 (W:World)(h:laidMetH Tryd.prog y9 W):∀g,Rep (GW W) (Bi g) (.pointer (some ⟨g,0,none⟩)):=by
 rw[MakeChecks.laidMetH_plain _ _ _ (by kernel_rfl)] at h
 obtain ⟨ps,⟨g0,t0,cs0,f0,p0,q0,hg0,ht0,hv0,hd0,⟨g1,t1,cs1,f1,p1,q1,hg1,ht1,hv1,hd1,_,_⟩,_⟩,_,_⟩:=h
 obtain rfl:=Option.some.inj (g0T.symm.trans hg0)
 obtain rfl:=Option.some.inj (g1T.symm.trans hg1)
 obtain rfl:=Option.some.inj (t0T.symm.trans ht0)
 obtain rfl:=Option.some.inj (t1T.symm.trans ht1)
 rw[d0T] at hd0
 rw[d1T] at hd1
 intro g
 unfold Bi
 split
 . rename_i hg
   rcases hg with rfl|rfl
   . exact uA hg0 hv0 (bj ES).1 (bj ER).1 YJ YI hd0
   . exact uA hg1 hv1 (bj ES).1 (bj ER).1 YJ YI hd1
 . simp[Rep]
theorem aiW (os:Os)(args:Array Value):laidMetH Tryd.prog y9 ((World.doorLaid Tryd.prog 400 os).forCall (fun _ _=>0) ⟨#[],args,[]⟩).memory:=by
 rw[MakeChecks.laidMetH_plain _ _ _ (by kernel_rfl)]
 exact laidMet_of_run' 8 (by kernel_rfl) (by kernel_rfl)
theorem a3:AR Tryd.prog 3 (fun n:Int=> .val (.int .i64 n)) fun n=> -9223372036854775808≤n∧n≤9223372036854775807:=aaA o9
set_option maxRecDepth 100000
theorem Q3 {α:Type}[Inhabited α]{l:List α}{i:Nat}(h:i< l.length):gt l i=l[i]:=by simp[gt,List.getD,List.getElem?_eq_getElem h]
theorem ad6 {l:List Int}(h:l.length≤9223372036854775807∧∀a∈l,-9223372036854775808≤a∧a≤9223372036854775807):LI l:=⟨h.1,fun i hi=>by rw[Q3 hi];exact h.2 _ (List.getElem_mem hi)⟩
theorem a22:AR Tryd.prog 22 (fun l:List Int=>sl iC .no l) LI:=fun h1 h2=>by
 obtain ⟨l,q1,q2⟩:=BW YM c3 (DK (bj o9).1) h1 h2
 exact ⟨l,ad6 q1,q2⟩
theorem a39:AR Tryd.prog 39 (fun l:List UInt8=>sl bC .no l) fun l=>l.length≤9223372036854775807:=fun h1 h2=>by
 obtain ⟨l,q1,q2⟩:=BW YO c5 (aai (bj YL).1) h1 h2
 exact ⟨l,q1.1,q2⟩
end Go.Proofs.YtmoaeemdlompaaaDoor
