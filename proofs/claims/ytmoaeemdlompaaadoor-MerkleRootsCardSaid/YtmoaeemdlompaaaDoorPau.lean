/-
  
-/
import Derived.Test.YtmoaeemdlompaaaDoorPat
set_option linter.unusedSimpArgs false
set_option linter.unusedVariables false
namespace Go.Proofs.YtmoaeemdlompaaaDoor
open Go.ChangeShapes Go.WideShapes Go.RowKit Go.Sx
set_option maxRecDepth 100000 in
theorem lY (os:Os)(started:os.Started)(H:Type)(enc:TypeId×Value→H):
 ReturnsInHanded {} Tryd.checked os 3 .any (fun w args=>(Rows.merkleRootsSpec.pre enc Tryd.prog Tryd.f3 [] false w args∧laidMetH Tryd.prog Sx.tx w)∧sizedMet enc Tryd.prog Tryd.f3 (OpenSpec.ofChange Rows.merkleRootsSpec) false w args)
  (Rows.merkleRootsSpec.post enc Tryd.prog Tryd.f3 false true false false):=by
 refine yV (K:=Tryd.checked) (gl:=ut) started Vo (by kernel_rfl) Tryd.func3 VW VX VY (by kernel_rfl) rfl (fun ds h=>?_) rfl (aL Nn).1
  (ChangeSpec.witness_shaped (enc:=enc) (C:=Tryd.checked) (os:=os) (X:=fun w _=>laidMetH Tryd.prog Sx.tx w) false (World.doorLaid Tryd.prog 400 os) #[.slice none 0 0,.slice none 0 0,.int .i64 0] 8 rfl (World.shaped_of_RefB (by kernel_rfl) (by kernel_rfl)) (by kernel_rfl) (by kernel_rfl) (by kernel_rfl) (Vp os _))
  V1 (fun W b0 args ds p hval hA=>?_)
 . match ds,h with
   | [d0,d1,d2],_=>rfl
 . obtain ⟨v0,vs0,d0,ds0,p0,q0,hargs,rfl,ht0,hA0⟩:=lq (t:=22) hA
   obtain ⟨v1,vs1,d1,ds1,p1,q1,rfl,rfl,ht1,hA1⟩:=lq (t:=23) hA0
   obtain ⟨v2,vs2,d2,ds2,p2,q2,rfl,rfl,ht2,hA2⟩:=lq (t:=3) hA1
   obtain rfl:=BO hA2
   obtain ⟨l,hok0,hr0⟩:=V2 (hval 0 22 v0 rfl (by rw[hargs];rfl)) ht0
   obtain ⟨r,hok1,hr1⟩:=V4 (hval 1 23 v1 rfl (by rw[hargs];rfl)) ht1
   obtain ⟨w,hok2,hr2⟩:=a3 (hval 2 3 v2 rfl (by rw[hargs];rfl)) ht2
   exact ⟨[sl iC .no l,sl eC .no r,.val (.int .i64 w)],by rw[hargs];simp only[RepL];exact ⟨_,_,rfl,hr0,⟨_,_,rfl,hr1,⟨_,_,rfl,hr2,rfl⟩⟩⟩,T3.law3 Ad RG RH l r w hok0 hok1.1 hok1.2 hok2⟩
theorem nP:Rows.MerkleRootsSaid:=
 OpenClaim.holds_of_wide 3 Tryd.f3 rfl rfl rfl rfl rfl rfl rfl ⟨rfl,rfl,rfl,rfl,rfl⟩ rfl rfl rfl rfl rfl (by kernel_rfl) Tryd.func3 (by kernel_rfl)
  (of_decide_eq_true (by kernel_rfl)) (by unfold Func.isWrapper;first| (rw[if_pos (by decide+kernel)];kernel_rfl) | (rw[if_neg (by decide+kernel)];exact ⟨rfl,rfl⟩))
  (fun os started H enc _=>lY os started H enc)
theorem merkleRoots_card:Rows.MerkleRootsCardSaid:=
 Claim7.holds_tied_plain_at .later [] [.data,.data] true (true,"cfa331bcd7bf7907658848225a87f74b41b2c375ddb15c8848a51e9a5dfce5ea") false
  nP (fun _ h=>by cases h) (by kernel_rfl) (fun _ h=>by cases h) merkleRoots_row_tie rfl ⟨rfl,rfl⟩ (by kernel_rfl) rfl
  (fun f fn hf hfn=>by
    obtain rfl:f=3:=Option.some.inj ((show Tryd.prog.funcNamed "passim/passimlaw04.MerkleRoots" =some 3 by kernel_rfl).symm.trans hf) |>.symm
    obtain rfl:fn=Tryd.f3:=(Option.some.inj (Tryd.func3.symm.trans hfn)).symm
    refine ⟨by kernel_rfl,fun j t ht=>?_⟩
    have hm:t∈Tryd.f3.params:=Array.mem_of_getElem? ht
    have hall: (Tryd.f3.params.all fun t=> !(Tryd.prog.wantsStandIn t)) =true:=by kernel_rfl
    have:=Array.all_eq_true_iff_forall_mem.1 hall t hm
    exact (by simpa using this:Tryd.prog.wantsStandIn t=false))
  (by kernel_rfl)
end Go.Proofs.YtmoaeemdlompaaaDoor
