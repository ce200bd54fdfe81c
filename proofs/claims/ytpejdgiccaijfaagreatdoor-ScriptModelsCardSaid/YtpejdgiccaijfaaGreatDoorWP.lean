/- What an array of blocks is behind ops, and wha -/
import Derived.Test.YtpejdgiccaijfaaGreatDoorWT
namespace Go.Proofs.YtpejdgiccaijfaaGreatDoor.scriptModels
open Go Go.RowKit Go.ChangeShapes Go.WideShapes Go.ChangeAt Go.Proofs.YtpejdgiccaijfaaGreatDoor
theorem plain (f : FuncId) (fn : Func) (hf : Tryz.pinned.checked.prog.funcNamed "lavabo/lavabolaw21.ScriptModels" = some f) (hfn : Tryz.pinned.checked.prog.funcs[f]? = some fn) :
  true=Tryz.pinned.checked.prog.looks []/\∀(j:Nat) t,fn.params[j]?=some t->Tryz.pinned.checked.prog.wantsStandIn t=false:=by
 obtain rfl : f = 5 := qYc ((show Tryz.prog.funcNamed "lavabo/lavabolaw21.ScriptModels" = some 5 by kernel_rfl).symm.trans hf) |>.symm
 obtain rfl:fn=Tryz.f5:=(qYc (Tryz.func5.symm.trans hfn)).symm;refine⟨kR,fun j t ht=>?_⟩;have hall:Tryz.f5.params.toList.all (fun t=>Tryz.prog.wantsStandIn t==false)=true:=kR;have hm:t∈Tryz.f5.params.toList:=by simpa using Array.mem_of_getElem? ht
 exact eq_of_beq (qxv.1 hall t hm)
end Go.Proofs.YtpejdgiccaijfaaGreatDoor.scriptModels
