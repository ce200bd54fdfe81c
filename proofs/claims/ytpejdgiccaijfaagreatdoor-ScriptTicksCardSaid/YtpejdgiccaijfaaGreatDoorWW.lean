/- Ticks turn nothing that is read: a script with -/
import Derived.Test.YtpejdgiccaijfaaGreatDoorWT
namespace Go.Proofs.YtpejdgiccaijfaaGreatDoor.scriptTicks
open Go Go.RowKit Go.ChangeShapes Go.WideShapes Go.ChangeAt Go.Proofs.YtpejdgiccaijfaaGreatDoor
theorem cw:Rows.scriptTicksRow.wfByText (OpenSpec.ofChange Rows.scriptTicksSpec)=true:=kR
end Go.Proofs.YtpejdgiccaijfaaGreatDoor.scriptTicks
