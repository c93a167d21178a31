/-
  
-/
import Derived.Test.YtmoaeemdlompaaaDoorPay
set_option linter.unusedSimpArgs false
set_option linter.unusedVariables false
namespace Go.Proofs.YtmoaeemdlompaaaDoor
open Go.ChangeShapes Go.WideShapes Go.RowKit Go.Sx
set_option maxRecDepth 100000 in
theorem pD (os:Os)(started:os.Started)(H:Type)(enc:TypeId×Value→H):
 ReturnsInHanded {} Tryd.checked os 9 .any (fun w args=>(Rows.merkleCodesSpec.pre enc Tryd.prog Tryd.f9 [] false w args∧laidMetH Tryd.prog y9 w)∧sizedMet enc Tryd.prog Tryd.f9 (OpenSpec.ofChange Rows.merkleCodesSpec) false w args)
  (Rows.merkleCodesSpec.post enc Tryd.prog Tryd.f9 false true false false):=by
 refine Fw (K:=Tryd.checked) (gl:=Bi) started aiV (by kernel_rfl) Tryd.func9 loT mrT slT (by kernel_rfl) rfl (fun ds h=>?_) rfl (bj YK).1
  (ChangeSpec.witness_shaped (enc:=enc) (C:=Tryd.checked) (os:=os) (X:=fun w _=>laidMetH Tryd.prog y9 w) false (World.doorLaid Tryd.prog 400 os) #[.slice none 0 0,.int .i64 0,.int .i64 0,.int .i64 0,.int .i64 0,.slice none 0 0] 8 rfl (World.shaped_of_RefB (by kernel_rfl) (by kernel_rfl)) (by kernel_rfl) (by kernel_rfl) (by kernel_rfl) (aiW os _))
  gl2 (fun W b0 args ds p hval hA=>?_)
 . match ds,h with
   | [d0,d1,d2,d3,d4,d5],_=>rfl
 . obtain ⟨v0,vs0,d0,ds0,p0,q0,hargs,rfl,ht0,hA0⟩:=iM (t:=22) hA
   obtain ⟨v1,vs1,d1,ds1,p1,q1,rfl,rfl,ht1,hA1⟩:=iM (t:=3) hA0
   obtain ⟨v2,vs2,d2,ds2,p2,q2,rfl,rfl,ht2,hA2⟩:=iM (t:=3) hA1
   obtain ⟨v3,vs3,d3,ds3,p3,q3,rfl,rfl,ht3,hA3⟩:=iM (t:=3) hA2
   obtain ⟨v4,vs4,d4,ds4,p4,q4,rfl,rfl,ht4,hA4⟩:=iM (t:=3) hA3
   obtain ⟨v5,vs5,d5,ds5,p5,q5,rfl,rfl,ht5,hA5⟩:=iM (t:=39) hA4
   obtain rfl:=I6 hA5
   obtain ⟨l,hok0,hr0⟩:=a22 (hval 0 22 v0 rfl (by rw[hargs];rfl)) ht0
   obtain ⟨k,hok1,hr1⟩:=a3 (hval 1 3 v1 rfl (by rw[hargs];rfl)) ht1
   obtain ⟨w,hok2,hr2⟩:=a3 (hval 2 3 v2 rfl (by rw[hargs];rfl)) ht2
   obtain ⟨u,hok3,hr3⟩:=a3 (hval 3 3 v3 rfl (by rw[hargs];rfl)) ht3
   obtain ⟨t,hok4,hr4⟩:=a3 (hval 4 3 v4 rfl (by rw[hargs];rfl)) ht4
   obtain ⟨raw,hok5,hr5⟩:=a39 (hval 5 39 v5 rfl (by rw[hargs];rfl)) ht5
   exact ⟨[sl iC .no l,.val (.int .i64 k),.val (.int .i64 w),.val (.int .i64 u),.val (.int .i64 t),sl bC .no raw],by rw[hargs];simp only[RepL];exact ⟨_,_,rfl,hr0,⟨_,_,rfl,hr1,⟨_,_,rfl,hr2,⟨_,_,rfl,hr3,⟨_,_,rfl,hr4,⟨_,_,rfl,hr5,rfl⟩⟩⟩⟩⟩⟩,T9.law9 Hr aeb aec l k w u t raw hok0 hok1 hok2 hok3 hok4 (by omega)⟩
theorem sx:Rows.MerkleCodesSaid:=
 OpenClaim.holds_of_wide 9 Tryd.f9 rfl rfl rfl rfl rfl rfl rfl ⟨rfl,rfl,rfl,rfl,rfl⟩ rfl rfl rfl rfl rfl (by kernel_rfl) Tryd.func9 (by kernel_rfl)
  (of_decide_eq_true (by kernel_rfl)) (by unfold Func.isWrapper;first| (rw[if_pos (by decide+kernel)];kernel_rfl) | (rw[if_neg (by decide+kernel)];exact ⟨rfl,rfl⟩))
  (fun os started H enc _=>pD os started H enc)
theorem merkleCodes_card:Rows.MerkleCodesCardSaid:=
 Claim7.holds_tied_plain_at .later [] [.data,.data] true (true,"cfa331bcd7bf7907658848225a87f74b41b2c375ddb15c8848a51e9a5dfce5ea") false
  sx (fun _ h=>by cases h) (by kernel_rfl) (fun _ h=>by cases h) merkleCodes_row_tie rfl ⟨rfl,rfl⟩ (by kernel_rfl) rfl
  (fun f fn hf hfn=>by
    obtain rfl:f=9:=Option.some.inj ((show Tryd.prog.funcNamed "passim/passimlaw04.MerkleCodes" =some 9 by kernel_rfl).symm.trans hf) |>.symm
    obtain rfl:fn=Tryd.f9:=(Option.some.inj (Tryd.func9.symm.trans hfn)).symm
    refine ⟨by kernel_rfl,fun j t ht=>?_⟩
    have hm:t∈Tryd.f9.params:=Array.mem_of_getElem? ht
    have hall: (Tryd.f9.params.all fun t=> !(Tryd.prog.wantsStandIn t)) =true:=by kernel_rfl
    have:=Array.all_eq_true_iff_forall_mem.1 hall t hm
    exact (by simpa using this:Tryd.prog.wantsStandIn t=false))
  (by kernel_rfl)
end Go.Proofs.YtmoaeemdlompaaaDoor
