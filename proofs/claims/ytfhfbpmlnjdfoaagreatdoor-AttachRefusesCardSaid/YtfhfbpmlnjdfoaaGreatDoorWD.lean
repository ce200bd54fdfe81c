/- That what is no cache is told, and no sector i -/
import Derived.Test.YtfhfbpmlnjdfoaaGreatDoorWC
import Derived.Test.YtfhfbpmlnjdfoaaGreatDoorWE
namespace Go.Proofs.YtfhfbpmlnjdfoaaGreatDoor.attachRefuses
open Go Go.RowKit Go.ChangeShapes Go.WideShapes Go.ChangeAt Go.Proofs.YtfhfbpmlnjdfoaaGreatDoor
theorem zdR:Rows.AttachRefusesSaid:=
 OpenClaim.holds_of_cond 8 Tryz.f8 rfl rfl rfl rfl rfl rfl rfl ⟨rfl,rfl,rfl,rfl,rfl⟩ rfl rfl rfl rfl rfl kR Tryz.func8 ST
  (of_decide_eq_true kR) (by unfold Func.isWrapper;first|(rw[if_pos (by decide+kernel)];kernel_rfl)|(rw[if_neg (by decide+kernel)];exact⟨rfl,rfl⟩))
  (fun os started H enc _ F=>by rw[OpenClaim.pre_eq_preRow];exact lifted os started H enc F)
theorem plain (f : FuncId) (fn : Func) (hf : Tryz.pinned.checked.prog.funcNamed "lavabo/lavabolaw19.AttachRefuses" = some f) (hfn : Tryz.pinned.checked.prog.funcs[f]? = some fn) :
  true=Tryz.pinned.checked.prog.looks []/\∀(j:Nat) t,fn.params[j]?=some t->Tryz.pinned.checked.prog.wantsStandIn t=false:=by
 obtain rfl : f = 8 := qYj ((show Tryz.prog.funcNamed "lavabo/lavabolaw19.AttachRefuses" = some 8 by kernel_rfl).symm.trans hf) |>.symm
 obtain rfl:fn=Tryz.f8:=(qYj (Tryz.func8.symm.trans hfn)).symm;refine⟨kR,fun j t ht=>?_⟩;have hall:Tryz.f8.params.toList.all (fun t=>Tryz.prog.wantsStandIn t==false)=true:=kR;have hm:t∈Tryz.f8.params.toList:=by simpa using Array.mem_of_getElem? ht
 exact eq_of_beq (qxw.1 hall t hm)
theorem card:Rows.AttachRefusesCardSaid:=
 Claim7.holds_tied_plain_at .later [] _ _ _ _ zdR (fun _ h=>by cases h) kR (fun _ h=>by cases h) attachRefuses_row_tie rfl ⟨rfl,rfl⟩ kR rfl plain kR
end Go.Proofs.YtfhfbpmlnjdfoaaGreatDoor.attachRefuses
