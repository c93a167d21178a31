/-
  
-/
import Derived.Test.YtcpdlhgkdogdjaaDoorPau
set_option linter.unusedSimpArgs false
set_option linter.unusedVariables false
namespace Go.Proofs.YtcpdlhgkdogdjaaDoor
open Go.ChangeShapes Go.WideShapes Go.RowKit Go.Sx
set_option maxRecDepth 100000 in
theorem oZ (os:Os)(started:os.Started)(H:Type)(enc:TypeId×Value→H):
 ReturnsInHanded {} Tryd.checked os 3 .any (fun w args=>(Rows.workValidSpec.pre enc Tryd.prog Tryd.f3 [] false w args∧laidMetH Tryd.prog sS w)∧sizedMet enc Tryd.prog Tryd.f3 (OpenSpec.ofChange Rows.workValidSpec) false w args)
  (Rows.workValidSpec.post enc Tryd.prog Tryd.f3 false true false false):=by
 refine yC (K:=Tryd.checked) (gl:=wh) started Ux (by kernel_rfl) Tryd.func3 WP WQ WR (by kernel_rfl) rfl (fun ds h=>?_) rfl (aN TG).1
  (ChangeSpec.witness_shaped (enc:=enc) (C:=Tryd.checked) (os:=os) (X:=fun w _=>laidMetH Tryd.prog sS w) false (World.doorLaid Tryd.prog 400 os) #[.slice none 0 0,.int .i64 0,.int .i64 0] 8 rfl (World.shaped_of_RefB (by kernel_rfl) (by kernel_rfl)) (by kernel_rfl) (by kernel_rfl) (by kernel_rfl) (Uy os _))
  WU (fun W b0 args ds p hval hA=>?_)
 . match ds,h with
   | [d0,d1,d2],_=>rfl
 . obtain ⟨v0,vs0,d0,ds0,p0,q0,hargs,rfl,ht0,hA0⟩:=mq (t:=22) hA
   obtain ⟨v1,vs1,d1,ds1,p1,q1,rfl,rfl,ht1,hA1⟩:=mq (t:=3) hA0
   obtain ⟨v2,vs2,d2,ds2,p2,q2,rfl,rfl,ht2,hA2⟩:=mq (t:=3) hA1
   obtain rfl:=Ba hA2
   obtain ⟨l,hok0,hr0⟩:=WV (hval 0 22 v0 rfl (by rw[hargs];rfl)) ht0
   obtain ⟨k,hok1,hr1⟩:=a3 (hval 1 3 v1 rfl (by rw[hargs];rfl)) ht1
   obtain ⟨m,hok2,hr2⟩:=a3 (hval 2 3 v2 rfl (by rw[hargs];rfl)) ht2
   exact ⟨[sl iC .no l,.val (.int .i64 k),.val (.int .i64 m)],by rw[hargs];simp only[RepL];exact ⟨_,_,rfl,hr0,⟨_,_,rfl,hr1,⟨_,_,rfl,hr2,rfl⟩⟩⟩,T3.law3 zS RE l k m hok0 hok1 hok2⟩
theorem pW:Rows.WorkValidSaid:=
 OpenClaim.holds_of_wide 3 Tryd.f3 rfl rfl rfl rfl rfl rfl rfl ⟨rfl,rfl,rfl,rfl,rfl⟩ rfl rfl rfl rfl rfl (by kernel_rfl) Tryd.func3 (by kernel_rfl)
  (of_decide_eq_true (by kernel_rfl)) (by unfold Func.isWrapper;first| (rw[if_pos (by decide+kernel)];kernel_rfl) | (rw[if_neg (by decide+kernel)];exact ⟨rfl,rfl⟩))
  (fun os started H enc _=>oZ os started H enc)
theorem workValid_card:Rows.WorkValidCardSaid:=
 Claim7.holds_tied_plain_at .later [] [.data] true (true,"65551ad1ab69c19db8d19995d7ae2bc075f95ca09b3f76e8e3e4bbba0450a399") false
  pW (fun _ h=>by cases h) (by kernel_rfl) (fun _ h=>by cases h) workValid_row_tie rfl ⟨rfl,rfl⟩ (by kernel_rfl) rfl
  (fun f fn hf hfn=>by
    obtain rfl:f=3:=Option.some.inj ((show Tryd.prog.funcNamed "passim/passimlaw07.WorkValid" =some 3 by kernel_rfl).symm.trans hf) |>.symm
    obtain rfl:fn=Tryd.f3:=(Option.some.inj (Tryd.func3.symm.trans hfn)).symm
    refine ⟨by kernel_rfl,fun j t ht=>?_⟩
    have hm:t∈Tryd.f3.params:=Array.mem_of_getElem? ht
    have hall: (Tryd.f3.params.all fun t=> !(Tryd.prog.wantsStandIn t)) =true:=by kernel_rfl
    have:=Array.all_eq_true_iff_forall_mem.1 hall t hm
    exact (by simpa using this:Tryd.prog.wantsStandIn t=false))
  (by kernel_rfl)
end Go.Proofs.YtcpdlhgkdogdjaaDoor
