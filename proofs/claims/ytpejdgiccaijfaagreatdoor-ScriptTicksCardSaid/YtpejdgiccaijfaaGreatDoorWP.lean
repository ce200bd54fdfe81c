/- Ticks turn nothing that is read: a script with -/
import Derived.Test.YtpejdgiccaijfaaGreatDoorWT
namespace Go.Proofs.YtpejdgiccaijfaaGreatDoor.scriptTicks
open Go Go.RowKit Go.ChangeShapes Go.WideShapes Go.ChangeAt Go.Proofs.YtpejdgiccaijfaaGreatDoor
theorem plain (f : FuncId) (a : Func) (b : Tryz.pinned.checked.prog.funcNamed "lavabo/lavabolaw21.ScriptTicks" = some f) (k : Tryz.pinned.checked.prog.funcs[f]? = some a) :
  true=Tryz.pinned.checked.prog.looks []/\∀(j:Nat) t,a.params[j]?=some t->Tryz.pinned.checked.prog.wantsStandIn t=false:=by
 obtain rfl : f = 3 := qYd ((show Tryz.prog.funcNamed "lavabo/lavabolaw21.ScriptTicks" = some 3 by kernel_rfl).symm.trans b) |>.symm
 obtain rfl:a=Tryz.f3:=(qYd (Tryz.func3.symm.trans k)).symm;refine⟨kR,fun j t n=>?_⟩;have p:Tryz.f3.params.toList.all (fun t=>Tryz.prog.wantsStandIn t==false)=true:=kR;have q:t∈Tryz.f3.params.toList:=by simpa using Array.mem_of_getElem? n
 exact eq_of_beq (qxv.1 p t q)
end Go.Proofs.YtpejdgiccaijfaaGreatDoor.scriptTicks
