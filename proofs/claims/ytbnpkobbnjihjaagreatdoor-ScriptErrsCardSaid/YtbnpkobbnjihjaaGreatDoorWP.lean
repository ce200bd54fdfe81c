/- Which ops, and runs, there are not. Its looks. -/
import Derived.Test.YtbnpkobbnjihjaaGreatDoorWT
namespace Go.Proofs.YtbnpkobbnjihjaaGreatDoor.scriptErrs
open Go Go.RowKit Go.ChangeShapes Go.WideShapes Go.ChangeAt Go.Proofs.YtbnpkobbnjihjaaGreatDoor
theorem plain (f : FuncId) (b : Func) (k : Tryz.pinned.checked.prog.funcNamed "lavabo/lavabolaw21.ScriptErrs" = some f) (n : Tryz.pinned.checked.prog.funcs[f]? = some b) :
  true=Tryz.pinned.checked.prog.looks []/\∀(j:Nat) t,b.params[j]?=some t->Tryz.pinned.checked.prog.wantsStandIn t=false:=by
 obtain rfl : f = 3 := qYd ((show Tryz.prog.funcNamed "lavabo/lavabolaw21.ScriptErrs" = some 3 by kernel_rfl).symm.trans k) |>.symm
 obtain rfl:b=Tryz.f3:=(qYd (Tryz.func3.symm.trans n)).symm;refine⟨kR,fun j t p=>?_⟩;have q:Tryz.f3.params.toList.all (fun t=>Tryz.prog.wantsStandIn t==false)=true:=kR;have s:t∈Tryz.f3.params.toList:=by simpa using Array.mem_of_getElem? p
 exact eq_of_beq (qxu.1 q t s)
end Go.Proofs.YtbnpkobbnjihjaaGreatDoor.scriptErrs
