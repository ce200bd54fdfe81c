/- Which ops, and runs, there are not. That it do -/
import Derived.Test.YtbnpkobbnjihjaaGreatDoorWT
namespace Go.Proofs.YtbnpkobbnjihjaaGreatDoor.scriptErrs
open Go Go.RowKit Go.ChangeShapes Go.WideShapes Go.ChangeAt Go.Proofs.YtbnpkobbnjihjaaGreatDoor
theorem Aw:Tryz.prog.funcs.any Func.goes=false:=kR
theorem tc(P:Program)(j:P.funcs.any Func.goes=false)(f:FuncId):P.goes f=false:=by
 unfold Program.goes;rw[j,Bool.and_false,Bool.or_false,List.any_eq_false];intro g _ b;cases h:P.funcs[g]? with
 |none=>rw[h]at b;cases b
 |some k=>
  rw[h]at b;have h1:P.funcs.any Func.goes=true:=Array.any_eq_true'.2 ⟨k,Array.mem_of_getElem? h,b⟩;rw[j]at h1;cases h1
theorem zbT(P:Program)(h:P.funcs.any Func.goes=false)(s:String):P.goesAt .entering s=false:=by
 unfold Program.goesAt Program.goesFrom;rw[Bool.or_false];cases P.funcNamed s with
 |none=>rfl
 |some f=>exact tc P h f
theorem cg : false = Rows.scriptErrsRow.goesBy Tryz.pinned.checked.prog := (zbT Tryz.prog Aw "lavabo/lavabolaw21.ScriptErrs").symm
end Go.Proofs.YtbnpkobbnjihjaaGreatDoor.scriptErrs
