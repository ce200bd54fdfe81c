/- What an array of blocks is behind ops, and wha -/
import Derived.Test.YtpejdgiccaijfaaGreatDoorWT
namespace Go.Proofs.YtpejdgiccaijfaaGreatDoor.scriptModels
open Go Go.RowKit Go.ChangeShapes Go.WideShapes Go.ChangeAt Go.Proofs.YtpejdgiccaijfaaGreatDoor
theorem SS:Tryz.prog.funcs.any Func.goes=false:=kR
theorem uI(P:Program)(h:P.funcs.any Func.goes=false)(f:FuncId):P.goes f=false:=by
 unfold Program.goes;rw[h,Bool.and_false,Bool.or_false,List.any_eq_false];intro g _ hg;cases hf:P.funcs[g]? with
 |none=>rw[hf]at hg;cases hg
 |some fn=>
  rw[hf]at hg;have h1:P.funcs.any Func.goes=true:=Array.any_eq_true'.2 ⟨fn,Array.mem_of_getElem? hf,hg⟩;rw[h]at h1;cases h1
theorem Af(P:Program)(h:P.funcs.any Func.goes=false)(s:String):P.goesAt .entering s=false:=by
 unfold Program.goesAt Program.goesFrom;rw[Bool.or_false];cases P.funcNamed s with
 |none=>rfl
 |some f=>exact uI P h f
theorem cg : false = Rows.scriptModelsRow.goesBy Tryz.pinned.checked.prog := (Af Tryz.prog SS "lavabo/lavabolaw21.ScriptModels").symm
end Go.Proofs.YtpejdgiccaijfaaGreatDoor.scriptModels
