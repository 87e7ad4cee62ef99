/- The law FnExactDeskCommand holds for every input,the listed tables as the program's text lays them (the card ties them): it returns true,and what came in reads as before. -/
import Derived.Test.YtpiehlfffjhoaaaGreatDoorQ49
namespace Go.Proofs.YtpiehlfffjhoaaaGreatDoor
open Go.ChangeShapes Go.WideShapes Go.ChangeAt Go.RowKit Go.Deep Go.Joins Go.Proofs.Tryz
set_option maxRecDepth 100000
set_option maxHeartbeats 8000000
theorem za3:joinedFacts prog 5 Tryz.f5 Rows.fnExactDeskCommandSpec Rows.fnExactDeskCommandRow=true:=by
 unfold joinedFacts;simp only [Bool.and_eq_true]
 repeat' apply And.intro
 all_goals (as_aux_lemma=>kernel_rfl)
theorem qa:Rows.FnExactDeskCommandSaid:=
 OpenClaim.holds_of_wide 5 Tryz.f5 rfl rfl rfl rfl rfl rfl rfl ⟨rfl,rfl,rfl,rfl,rfl⟩ rfl rfl rfl rfl rfl (by kernel_rfl) func5 za3
  (of_decide_eq_true (by kernel_rfl)) (by unfold Func.isWrapper;first | (rw [if_pos (by decide +kernel)];kernel_rfl) | (rw [if_neg (by decide +kernel)];exact ⟨rfl,rfl⟩))
  (fun os started H enc _=>sJ os started H enc)
theorem FnExactDeskCommand_holds:Rows.FnExactDeskCommandCardSaid:=
 Claim7.holds_tied_plain_at .later [] [.data,.data,.data,.data,.sentinel,.sentinel,.data,.widerDeep,.pinned] true (true,(Rows.fnExactDeskCommandCard.stood.harness).2) true
  qa (fun _ h=>by cases h) (by kernel_rfl) (fun _ h=>by cases h) fnExactDeskCommand_row_tie rfl ⟨rfl,rfl⟩ (by kernel_rfl) rfl
  (fun f fn hf hfn=>by
    obtain rfl : f = 5 := Option.some.inj ((show prog.funcNamed "loop.example/g01043/laws.FnExactDeskCommand" = some 5 by kernel_rfl).symm.trans hf) |>.symm
    obtain rfl:fn=Tryz.f5:=(Option.some.inj (func5.symm.trans hfn)).symm;exact ⟨by kernel_rfl,fun j t ht=>by
     rw [Tryz.params5] at ht;have hm:t ∈ [45,9]:=by simpa using Array.mem_of_getElem? ht
     have hall:([45,9].all fun u=>!prog.wantsStandIn u)=true:=by kernel_rfl
     exact (show prog.wantsStandIn t=false by simpa using List.all_eq_true.1 hall t hm)⟩)
  (by kernel_rfl)
end Go.Proofs.YtpiehlfffjhoaaaGreatDoor
