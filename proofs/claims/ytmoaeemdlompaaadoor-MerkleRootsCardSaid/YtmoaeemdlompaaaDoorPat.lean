/-
  
-/
import Derived.Test.YtmoaeemdlompaaaDoorRows
import Derived.Test.YtmoaeemdlompaaaDoorCards
import Derived.Test.YtmoaeemdlompaaaDoorTie
import Derived.SevenTiedAt
import Derived.Test.YtmoaeemdlompaaaDoorPas
import Derived.Test.YtmoaeemdlompaaaDoorPaj
set_option linter.unusedSimpArgs false
set_option linter.unusedVariables false
namespace Go.Proofs.YtmoaeemdlompaaaDoor
open Go.ChangeShapes Go.WideShapes Go.RowKit Go.Sx
theorem Vo:ownKnob Tryd.prog.godebug=none:=by kernel_rfl
theorem VW:laidOutB Tryd.prog=true:=by kernel_rfl
theorem VX:mapsRowed Tryd.prog=true:=by kernel_rfl
theorem VY:nw Tryd.prog=true:=by kernel_rfl
theorem g0T:Tryd.prog.globalNamed "passim/passimref02.constants" =some 0:=by kernel_rfl
theorem g1T:Tryd.prog.globalNamed "passim/hash.constants" =some 2:=by kernel_rfl
theorem t0T: (Tryd.prog.globals[0]?).map (·.type) =some 162:=by kernel_rfl
theorem t1T: (Tryd.prog.globals[2]?).map (·.type) =some 162:=by kernel_rfl
theorem Nl:Tryd.prog.cellsOf 162=64:=by kernel_rfl
theorem Nm:Tryd.prog.cellsOf 151=1:=by kernel_rfl
theorem c9:Tryd.prog.cellsOf 9=1:=by kernel_rfl
theorem c3:Tryd.prog.cellsOf 3=1:=by kernel_rfl
theorem S7:Tryd.prog.cellsOf 97=2:=by kernel_rfl
theorem VZ: (Rows.laid_passim_passimref02_constants:DataW Unit) = .agg ((kc.map fun w=>(w.toNat:Int)).map fun m=> .lit (.int .u32 m)):=by kernel_rfl
theorem V0: (Rows.laid_passim_hash_constants:DataW Unit) = .agg ((kc.map fun w=>(w.toNat:Int)).map fun m=> .lit (.int .u32 m)):=by kernel_rfl
abbrev Sx.tx:List (String×DataW Unit) := [("passim/passimref02.constants",Rows.laid_passim_passimref02_constants),("passim/hash.constants",Rows.laid_passim_hash_constants)]
theorem V1 (W:World)(h:laidMetH Tryd.prog Sx.tx W):∀g,Rep (GW W) (ut g) (.pointer (some ⟨g,0,none⟩)):=by
 rw[MakeChecks.laidMetH_plain _ _ _ (by kernel_rfl)] at h
 obtain ⟨ps,⟨g0,t0,cs0,f0,p0,q0,hg0,ht0,hv0,hd0,⟨g1,t1,cs1,f1,p1,q1,hg1,ht1,hv1,hd1,_,_⟩,_⟩,_,_⟩:=h
 obtain rfl:=Option.some.inj (g0T.symm.trans hg0)
 obtain rfl:=Option.some.inj (g1T.symm.trans hg1)
 obtain rfl:=Option.some.inj (t0T.symm.trans ht0)
 obtain rfl:=Option.some.inj (t1T.symm.trans ht1)
 rw[VZ] at hd0
 rw[V0] at hd1
 intro g
 unfold ut
 split
 . rename_i hg
   rcases hg with rfl|rfl
   . exact pU hg0 hv0 (aL yg).1 (aL yf).1 Nm Nl hd0
   . exact pU hg1 hv1 (aL yg).1 (aL yf).1 Nm Nl hd1
 . simp[Rep]
theorem Vp (os:Os)(args:Array Value):laidMetH Tryd.prog Sx.tx ((World.doorLaid Tryd.prog 400 os).forCall (fun _ _=>0) ⟨#[],args,[]⟩).memory:=by
 rw[MakeChecks.laidMetH_plain _ _ _ (by kernel_rfl)]
 exact laidMet_of_run' 8 (by kernel_rfl) (by kernel_rfl)
theorem a3:AR Tryd.prog 3 (fun n:Int=> .val (.int .i64 n)) fun n=> -9223372036854775808≤n∧n≤9223372036854775807:=Sx.Pc rJ
set_option maxRecDepth 100000
theorem Sx.wg {α:Type}[Inhabited α]{l:List α}{i:Nat}(h:i< l.length):gt l i=l[i]:=by simp[gt,List.getD,List.getElem?_eq_getElem h]
theorem RB {l:List Int}(h:l.length≤9223372036854775807∧∀a∈l,-9223372036854775808≤a∧a≤9223372036854775807):LI l:=⟨h.1,fun i hi=>by rw[Sx.wg hi];exact h.2 _ (List.getElem_mem hi)⟩
theorem V2:AR Tryd.prog 22 (fun l:List Int=>sl iC .no l) LI:=fun h1 h2=>by
 obtain ⟨l,q1,q2⟩:=vd Np c3 (wR (aL rJ).1) h1 h2
 exact ⟨l,RB q1,q2⟩
theorem V3:pS Tryd.prog 97 eC fun x=>x.1.length≤9223372036854775807∧x.2.length≤9223372036854775807:=fun h=>by
 obtain ⟨l,h1,h2,h3⟩:=BJ (aL Nt).1 c9 S7 (Js (aL rK).1) h
 match l,h1.1 with
 | [x,y],_=>exact ⟨(x,y),⟨h1.2 x (by simp),h1.2 y (by simp)⟩,h2,h3⟩
theorem V4:AR Tryd.prog 23 (fun l:List ab=>sl eC .no l) fun l=>l.length< 9223372036854775808∧∀i,i< l.length→(gt l i).1.length< 9223372036854775808∧(gt l i).2.length< 9223372036854775808:=fun h1 h2=>by
 obtain ⟨l,q1,q2⟩:=vd Nq S7 V3 h1 h2
 refine ⟨l,⟨?_,fun i hi=>?_⟩,q2⟩
 . exact Nat.lt_succ_of_le q1.1
 . rw[Sx.wg hi];have:=q1.2 _ (List.getElem_mem hi);omega
end Go.Proofs.YtmoaeemdlompaaaDoor
