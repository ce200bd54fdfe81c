/- That to attach what was attached is to have th -/
import Derived.Test.YtfhfbpmlnjdfoaaGreatDoorWC
import Derived.Test.YtfhfbpmlnjdfoaaGreatDoorWE
namespace Go.Proofs.YtfhfbpmlnjdfoaaGreatDoor.attachTwice
open Go Go.RowKit Go.ChangeShapes Go.WideShapes Go.ChangeAt Go.Proofs.YtfhfbpmlnjdfoaaGreatDoor
theorem zcY:Rows.AttachTwiceSaid:=
 OpenClaim.holds_of_cond 9 Tryz.f9 rfl rfl rfl rfl rfl rfl rfl ⟨rfl,rfl,rfl,rfl,rfl⟩ rfl rfl rfl rfl rfl (by kernel_rfl) Tryz.func9 SG
  (of_decide_eq_true (by kernel_rfl)) (by unfold Func.isWrapper;first|(rw[if_pos (by decide+kernel)];kernel_rfl)|(rw[if_neg (by decide+kernel)];exact⟨rfl,rfl⟩))
  (fun os started H enc _ F=>by rw[OpenClaim.pre_eq_preRow];exact lifted os started H enc F)
theorem plain (f : FuncId) (fn : Func) (hf : Tryz.pinned.checked.prog.funcNamed "lavabo/lavabolaw19.AttachTwice" = some f) (hfn : Tryz.pinned.checked.prog.funcs[f]? = some fn) :
  true=Tryz.pinned.checked.prog.looks []/\∀(j:Nat) t,fn.params[j]?=some t->Tryz.pinned.checked.prog.wantsStandIn t=false:=by
 obtain rfl : f = 9 := qYj ((show Tryz.prog.funcNamed "lavabo/lavabolaw19.AttachTwice" = some 9 by kernel_rfl).symm.trans hf) |>.symm
 obtain rfl:fn=Tryz.f9:=(qYj (Tryz.func9.symm.trans hfn)).symm;refine⟨by kernel_rfl,fun j t ht=>?_⟩;have hall:Tryz.f9.params.toList.all (fun t=>Tryz.prog.wantsStandIn t==false)=true:=by kernel_rfl
 have hm:t∈Tryz.f9.params.toList:=by simpa using Array.mem_of_getElem? ht
 exact eq_of_beq (qxw.1 hall t hm)
theorem card:Rows.AttachTwiceCardSaid:=
 Claim7.holds_tied_plain_at .later [] _ _ _ _ zcY (fun _ h=>by cases h) (by kernel_rfl) (fun _ h=>by cases h) attachTwice_row_tie rfl ⟨rfl,rfl⟩ (by kernel_rfl) rfl plain (by kernel_rfl)
end Go.Proofs.YtfhfbpmlnjdfoaaGreatDoor.attachTwice
