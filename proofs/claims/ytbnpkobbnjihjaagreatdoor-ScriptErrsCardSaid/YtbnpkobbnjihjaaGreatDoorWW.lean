/- Which ops, and runs, there are not. The row by -/
import Derived.Test.YtbnpkobbnjihjaaGreatDoorWT
namespace Go.Proofs.YtbnpkobbnjihjaaGreatDoor.scriptErrs
open Go Go.RowKit Go.ChangeShapes Go.WideShapes Go.ChangeAt Go.Proofs.YtbnpkobbnjihjaaGreatDoor
theorem cw:Rows.scriptErrsRow.wfByText (OpenSpec.ofChange Rows.scriptErrsSpec)=true:=kR
end Go.Proofs.YtbnpkobbnjihjaaGreatDoor.scriptErrs
