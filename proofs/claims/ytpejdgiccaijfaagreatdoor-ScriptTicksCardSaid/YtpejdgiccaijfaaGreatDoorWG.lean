/- Ticks turn nothing that is read: a script with -/
import Derived.Test.YtpejdgiccaijfaaGreatDoorWT
namespace Go.Proofs.YtpejdgiccaijfaaGreatDoor.scriptTicks
open Go Go.RowKit Go.ChangeShapes Go.WideShapes Go.ChangeAt Go.Proofs.YtpejdgiccaijfaaGreatDoor
theorem Af:Tryz.prog.funcs.any Func.goes=false:=kR
theorem tI(P:Program)(h:P.funcs.any Func.goes=false)(f:FuncId):P.goes f=false:=by
 unfold Program.goes;rw[h,Bool.and_false,Bool.or_false,List.any_eq_false];intro g _ a;cases b:P.funcs[g]? with
 |none=>rw[b]at a;cases a
 |some j=>
  rw[b]at a;have h1:P.funcs.any Func.goes=true:=Array.any_eq_true'.2 ⟨j,Array.mem_of_getElem? b,a⟩;rw[h]at h1;cases h1
theorem zbB(P:Program)(h:P.funcs.any Func.goes=false)(s:String):P.goesAt .entering s=false:=by
 unfold Program.goesAt Program.goesFrom;rw[Bool.or_false];cases P.funcNamed s with
 |none=>rfl
 |some f=>exact tI P h f
theorem cg : false = Rows.scriptTicksRow.goesBy Tryz.pinned.checked.prog := (zbB Tryz.prog Af "lavabo/lavabolaw21.ScriptTicks").symm
end Go.Proofs.YtpejdgiccaijfaaGreatDoor.scriptTicks
