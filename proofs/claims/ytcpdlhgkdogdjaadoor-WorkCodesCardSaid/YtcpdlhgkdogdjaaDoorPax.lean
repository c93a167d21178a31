/-
  
-/
import Derived.Test.YtcpdlhgkdogdjaaDoorPaw
set_option linter.unusedSimpArgs false
set_option linter.unusedVariables false
namespace Go.Proofs.YtcpdlhgkdogdjaaDoor
open Go.ChangeShapes Go.WideShapes Go.RowKit Go.Sx
set_option maxRecDepth 100000 in
theorem rG (os:Os)(started:os.Started)(H:Type)(enc:TypeId×Value→H):
 ReturnsInHanded {} Tryd.checked os 10 .any (fun w args=>(Rows.workCodesSpec.pre enc Tryd.prog Tryd.f10 [] false w args∧laidMetH Tryd.prog v6 w)∧sizedMet enc Tryd.prog Tryd.f10 (OpenSpec.ofChange Rows.workCodesSpec) false w args)
  (Rows.workCodesSpec.post enc Tryd.prog Tryd.f10 false true false false):=by
 refine BJ (K:=Tryd.checked) (gl:=yZ) started abW (by kernel_rfl) Tryd.func10 loT mrT slT (by kernel_rfl) rfl (fun ds h=>?_) rfl (aQ td4).1
  (ChangeSpec.witness_shaped (enc:=enc) (C:=Tryd.checked) (os:=os) (X:=fun w _=>laidMetH Tryd.prog v6 w) false (World.doorLaid Tryd.prog 400 os) #[.slice none 0 0,.int .i64 0,.int .i64 0,.int .i64 0,.slice none 0 0] 8 rfl (World.shaped_of_RefB (by kernel_rfl) (by kernel_rfl)) (by kernel_rfl) (by kernel_rfl) (by kernel_rfl) (abZ os _))
  gl2 (fun W b0 args ds p hval hA=>?_)
 . match ds,h with
   | [d0,d1,d2,d3,d4],_=>rfl
 . obtain ⟨v0,vs0,d0,ds0,p0,q0,hargs,rfl,ht0,hA0⟩:=jQ (t:=22) hA
   obtain ⟨v1,vs1,d1,ds1,p1,q1,rfl,rfl,ht1,hA1⟩:=jQ (t:=3) hA0;obtain ⟨v2,vs2,d2,ds2,p2,q2,rfl,rfl,ht2,hA2⟩:=jQ (t:=3) hA1;obtain ⟨v3,vs3,d3,ds3,p3,q3,rfl,rfl,ht3,hA3⟩:=jQ (t:=3) hA2;obtain ⟨v4,vs4,d4,ds4,p4,q4,rfl,rfl,ht4,hA4⟩:=jQ (t:=72) hA3;obtain rfl:=Ep hA4;obtain ⟨l,hok0,hr0⟩:=a22 (hval 0 22 v0 rfl (by rw[hargs];rfl)) ht0;obtain ⟨k,hok1,hr1⟩:=a3 (hval 1 3 v1 rfl (by rw[hargs];rfl)) ht1;obtain ⟨m,hok2,hr2⟩:=a3 (hval 2 3 v2 rfl (by rw[hargs];rfl)) ht2;obtain ⟨t,hok3,hr3⟩:=a3 (hval 3 3 v3 rfl (by rw[hargs];rfl)) ht3;obtain ⟨raw,hok4,hr4⟩:=a72 (hval 4 72 v4 rfl (by rw[hargs];rfl)) ht4;exact ⟨[sl iC .no l,.val (.int .i64 k),.val (.int .i64 m),.val (.int .i64 t),sl bC .no raw],by rw[hargs];simp only[RepL];exact ⟨_,_,rfl,hr0,⟨_,_,rfl,hr1,⟨_,_,rfl,hr2,⟨_,_,rfl,hr3,⟨_,_,rfl,hr4,rfl⟩⟩⟩⟩⟩,T10.law10 Gn Z4 Z5 l k m t raw hok0 hok1 hok2 hok3 (by omega)⟩
theorem Sx.sz:Rows.WorkCodesSaid:=
 OpenClaim.holds_of_wide 10 Tryd.f10 rfl rfl rfl rfl rfl rfl rfl ⟨rfl,rfl,rfl,rfl,rfl⟩ rfl rfl rfl rfl rfl (by kernel_rfl) Tryd.func10 (by kernel_rfl)
  (of_decide_eq_true (by kernel_rfl)) (by unfold Func.isWrapper;first| (rw[if_pos (by decide+kernel)];kernel_rfl) | (rw[if_neg (by decide+kernel)];exact ⟨rfl,rfl⟩))
  (fun os started H enc _=>rG os started H enc)
theorem workCodes_card:Rows.WorkCodesCardSaid:=
 Claim7.holds_tied_plain_at .later [] [.data,.data] true (true,"65551ad1ab69c19db8d19995d7ae2bc075f95ca09b3f76e8e3e4bbba0450a399") false
  Sx.sz (fun _ h=>by cases h) (by kernel_rfl) (fun _ h=>by cases h) workCodes_row_tie rfl ⟨rfl,rfl⟩ (by kernel_rfl) rfl
  (fun f fn hf hfn=>by
    obtain rfl:f=10:=Option.some.inj ((show Tryd.prog.funcNamed "passim/passimlaw07.WorkCodes" =some 10 by kernel_rfl).symm.trans hf) |>.symm;obtain rfl:fn=Tryd.f10:=(Option.some.inj (Tryd.func10.symm.trans hfn)).symm;refine ⟨by kernel_rfl,fun j t ht=>?_⟩;have hm:t∈Tryd.f10.params:=Array.mem_of_getElem? ht;have hall: (Tryd.f10.params.all fun t=> !(Tryd.prog.wantsStandIn t)) =true:=by kernel_rfl
    have:=Array.all_eq_true_iff_forall_mem.1 hall t hm;exact (by simpa using this:Tryd.prog.wantsStandIn t=false))
  (by kernel_rfl)
end Go.Proofs.YtcpdlhgkdogdjaaDoor
