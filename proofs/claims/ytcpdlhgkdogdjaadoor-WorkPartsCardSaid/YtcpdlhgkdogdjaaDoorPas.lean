/-
  
-/
import Derived.Test.YtcpdlhgkdogdjaaDoorPar
set_option linter.unusedSimpArgs false
set_option linter.unusedVariables false
namespace Go.Proofs.YtcpdlhgkdogdjaaDoor
open Go.ChangeShapes Go.WideShapes Go.RowKit Go.Sx
set_option maxRecDepth 100000 in
theorem m4 (os:Os)(started:os.Started)(H:Type)(enc:TypeId×Value→H):
 ReturnsInHanded {} Tryd.checked os 4 .any (fun w args=>(Rows.workPartsSpec.pre enc Tryd.prog Tryd.f4 [] false w args∧laidMetH Tryd.prog qV w)∧sizedMet enc Tryd.prog Tryd.f4 (OpenSpec.ofChange Rows.workPartsSpec) false w args)
  (Rows.workPartsSpec.post enc Tryd.prog Tryd.f4 false true false false):=by
 refine vQ (K:=Tryd.checked) (gl:=t0) started Sx.PJ (by kernel_rfl) Tryd.func4 Rp Rq Rr (by kernel_rfl) rfl (fun ds h=>?_) rfl (aH OR).1
  (ChangeSpec.witness_shaped (enc:=enc) (C:=Tryd.checked) (os:=os) (X:=fun w _=>laidMetH Tryd.prog qV w) false (World.doorLaid Tryd.prog 400 os) #[.slice none 0 0,.slice none 0 0,.int .i64 0,.int .i64 0] 8 rfl (World.shaped_of_RefB (by kernel_rfl) (by kernel_rfl)) (by kernel_rfl) (by kernel_rfl) (by kernel_rfl) (PK os _))
  Ru (fun W b0 args ds p hval hA=>?_)
 . match ds,h with
   | [d0,d1,d2,d3],_=>rfl
 . obtain ⟨v0,vs0,d0,ds0,p0,q0,hargs,rfl,ht0,hA0⟩:=iE (t:=22) hA
   obtain ⟨v1,vs1,d1,ds1,p1,q1,rfl,rfl,ht1,hA1⟩:=iE (t:=22) hA0
   obtain ⟨v2,vs2,d2,ds2,p2,q2,rfl,rfl,ht2,hA2⟩:=iE (t:=3) hA1
   obtain ⟨v3,vs3,d3,ds3,p3,q3,rfl,rfl,ht3,hA3⟩:=iE (t:=3) hA2
   obtain rfl:=yD hA3
   obtain ⟨l,hok0,hr0⟩:=OQ (hval 0 22 v0 rfl (by rw[hargs];rfl)) ht0
   obtain ⟨r,hok1,hr1⟩:=OQ (hval 1 22 v1 rfl (by rw[hargs];rfl)) ht1
   obtain ⟨k,hok2,hr2⟩:=a3 (hval 2 3 v2 rfl (by rw[hargs];rfl)) ht2
   obtain ⟨m,hok3,hr3⟩:=a3 (hval 3 3 v3 rfl (by rw[hargs];rfl)) ht3
   exact ⟨[sl iC .no l,sl iC .no r,.val (.int .i64 k),.val (.int .i64 m)],by rw[hargs];simp only[RepL];exact ⟨_,_,rfl,hr0,⟨_,_,rfl,hr1,⟨_,_,rfl,hr2,⟨_,_,rfl,hr3,rfl⟩⟩⟩⟩,T4.law4 xb Nq l r k m hok0 hok1 hok2 hok3⟩
theorem nV:Rows.WorkPartsSaid:=
 OpenClaim.holds_of_wide 4 Tryd.f4 rfl rfl rfl rfl rfl rfl rfl ⟨rfl,rfl,rfl,rfl,rfl⟩ rfl rfl rfl rfl rfl (by kernel_rfl) Tryd.func4 (by kernel_rfl)
  (of_decide_eq_true (by kernel_rfl)) (by unfold Func.isWrapper;first| (rw[if_pos (by decide+kernel)];kernel_rfl) | (rw[if_neg (by decide+kernel)];exact ⟨rfl,rfl⟩))
  (fun os started H enc _=>m4 os started H enc)
theorem workParts_card:Rows.WorkPartsCardSaid:=
 Claim7.holds_tied_plain_at .later [] [.data] true (true,"65551ad1ab69c19db8d19995d7ae2bc075f95ca09b3f76e8e3e4bbba0450a399") false
  nV (fun _ h=>by cases h) (by kernel_rfl) (fun _ h=>by cases h) workParts_row_tie rfl ⟨rfl,rfl⟩ (by kernel_rfl) rfl
  (fun f fn hf hfn=>by
    obtain rfl:f=4:=Option.some.inj ((show Tryd.prog.funcNamed "passim/passimlaw07.WorkParts" =some 4 by kernel_rfl).symm.trans hf) |>.symm
    obtain rfl:fn=Tryd.f4:=(Option.some.inj (Tryd.func4.symm.trans hfn)).symm
    refine ⟨by kernel_rfl,fun j t ht=>?_⟩
    have hm:t∈Tryd.f4.params:=Array.mem_of_getElem? ht
    have hall: (Tryd.f4.params.all fun t=> !(Tryd.prog.wantsStandIn t)) =true:=by kernel_rfl
    have:=Array.all_eq_true_iff_forall_mem.1 hall t hm
    exact (by simpa using this:Tryd.prog.wantsStandIn t=false))
  (by kernel_rfl)
end Go.Proofs.YtcpdlhgkdogdjaaDoor
