/-
  
-/
import Derived.Test.YtmoaeemdlompaaaDoorPax
set_option linter.unusedSimpArgs false
set_option linter.unusedVariables false
namespace Go.Proofs.YtmoaeemdlompaaaDoor
open Go.ChangeShapes Go.WideShapes Go.RowKit Go.Sx
set_option maxRecDepth 100000 in
theorem oc (os:Os) (started:os.Started) (H:Type) (enc:TypeId×Value→H) :
 ReturnsInHanded {} Tryd.checked os 7 .any (fun w args=> (Rows.merkleSoundSpec.pre enc Tryd.prog Tryd.f7 [] false w args∧laidMetH Tryd.prog wa w)∧sizedMet enc Tryd.prog Tryd.f7 (OpenSpec.ofChange Rows.merkleSoundSpec) false w args)
  (Rows.merkleSoundSpec.post enc Tryd.prog Tryd.f7 false true false false) :=by
 refine BN (K:=Tryd.checked) (gl:=xq) started aaK (by kernel_rfl) Tryd.func7 loT mrT slT (by kernel_rfl) rfl (fun ds h=> ?_) rfl (ch Sx.R6).1
  (ChangeSpec.witness_shaped (enc:=enc) (C:=Tryd.checked) (os:=os) (X:=fun w _=>laidMetH Tryd.prog wa w) false (World.doorLaid Tryd.prog 400 os) #[.slice none 0 0,.slice none 0 0,.int .i64 0,.int .i64 0,.int .i64 0,.int .i64 0,.int .i64 0] 8 rfl (World.shaped_of_RefB (by kernel_rfl) (by kernel_rfl)) (by kernel_rfl) (by kernel_rfl) (by kernel_rfl) (aaL os _))
  gl2 (fun W b0 args ds p hval hA=> ?_)
 · match ds,h with
   | [d0,d1,d2,d3,d4,d5,d6],_=>rfl
 · obtain ⟨v0,vs0,d0,ds0,p0,q0,hargs,rfl,ht0,hA0⟩ :=gJ (t:=22) hA
   obtain ⟨v1,vs1,d1,ds1,p1,q1,rfl,rfl,ht1,hA1⟩ :=gJ (t:=22) hA0
   obtain ⟨v2,vs2,d2,ds2,p2,q2,rfl,rfl,ht2,hA2⟩ :=gJ (t:=3) hA1
   obtain ⟨v3,vs3,d3,ds3,p3,q3,rfl,rfl,ht3,hA3⟩ :=gJ (t:=3) hA2
   obtain ⟨v4,vs4,d4,ds4,p4,q4,rfl,rfl,ht4,hA4⟩ :=gJ (t:=3) hA3
   obtain ⟨v5,vs5,d5,ds5,p5,q5,rfl,rfl,ht5,hA5⟩ :=gJ (t:=3) hA4
   obtain ⟨v6,vs6,d6,ds6,p6,q6,rfl,rfl,ht6,hA6⟩ :=gJ (t:=3) hA5
   obtain rfl:=Sx.Fd hA6
   obtain ⟨l,hok0,hr0⟩ :=Yf (hval 0 22 v0 rfl (by rw[hargs];rfl)) ht0
   obtain ⟨r,hok1,hr1⟩ :=Yf (hval 1 22 v1 rfl (by rw[hargs];rfl)) ht1
   obtain ⟨k,hok2,hr2⟩ :=a3 (hval 2 3 v2 rfl (by rw[hargs];rfl)) ht2
   obtain ⟨m,hok3,hr3⟩ :=a3 (hval 3 3 v3 rfl (by rw[hargs];rfl)) ht3
   obtain ⟨w,hok4,hr4⟩ :=a3 (hval 4 3 v4 rfl (by rw[hargs];rfl)) ht4
   obtain ⟨u,hok5,hr5⟩ :=a3 (hval 5 3 v5 rfl (by rw[hargs];rfl)) ht5
   obtain ⟨v,hok6,hr6⟩ :=a3 (hval 6 3 v6 rfl (by rw[hargs];rfl)) ht6
   exact ⟨[sl iC .no l,sl iC .no r,.val (.int .i64 k),.val (.int .i64 m),.val (.int .i64 w),.val (.int .i64 u),.val (.int .i64 v)],by rw[hargs];simp only[RepL];exact ⟨_,_,rfl,hr0,⟨_,_,rfl,hr1,⟨_,_,rfl,hr2,⟨_,_,rfl,hr3,⟨_,_,rfl,hr4,⟨_,_,rfl,hr5,⟨_,_,rfl,hr6,rfl⟩⟩⟩⟩⟩⟩⟩,T7.law7 Ds WP WQ l r k m w u v hok0 hok1 hok2 hok3 hok4 hok5 hok6⟩
theorem qq:Rows.MerkleSoundSaid:=
 OpenClaim.holds_of_wide 7 Tryd.f7 rfl rfl rfl rfl rfl rfl rfl ⟨rfl,rfl,rfl,rfl,rfl⟩ rfl rfl rfl rfl rfl (by kernel_rfl) Tryd.func7 (by kernel_rfl)
  (of_decide_eq_true (by kernel_rfl)) (by unfold Func.isWrapper;first| (rw[if_pos (by decide+kernel)];kernel_rfl) | (rw[if_neg (by decide+kernel)];exact ⟨rfl,rfl⟩))
  (fun os started H enc _=>oc os started H enc)
theorem merkleSound_card:Rows.MerkleSoundCardSaid:=
 Claim7.holds_tied_plain_at .later [] [.data,.data] true (true,"cfa331bcd7bf7907658848225a87f74b41b2c375ddb15c8848a51e9a5dfce5ea") false
  qq (fun _ h=>by cases h) (by kernel_rfl) (fun _ h=>by cases h) merkleSound_row_tie rfl ⟨rfl,rfl⟩ (by kernel_rfl) rfl
  (fun f fn hf hfn=>by
    obtain rfl:f=7:=Option.some.inj ((show Tryd.prog.funcNamed "passim/passimlaw04.MerkleSound" =some 7 by kernel_rfl).symm.trans hf) |>.symm
    obtain rfl:fn=Tryd.f7:= (Option.some.inj (Tryd.func7.symm.trans hfn)).symm
    refine ⟨by kernel_rfl,fun j t ht=> ?_⟩
    have hm:t∈Tryd.f7.params:=Array.mem_of_getElem? ht
    have hall: (Tryd.f7.params.all fun t=> !(Tryd.prog.wantsStandIn t)) =true:=by kernel_rfl
    have:=Array.all_eq_true_iff_forall_mem.1 hall t hm
    exact (by simpa using this:Tryd.prog.wantsStandIn t=false))
  (by kernel_rfl)
end Go.Proofs.YtmoaeemdlompaaaDoor
