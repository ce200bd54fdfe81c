/- What an array of blocks is behind ops, and wha -/
import Derived.Test.YtpejdgiccaijfaaGreatDoorWT
namespace Go.Proofs.YtpejdgiccaijfaaGreatDoor.scriptModels
open Go Go.RowKit Go.ChangeShapes Go.WideShapes Go.ChangeAt Go.Proofs.YtpejdgiccaijfaaGreatDoor
theorem cw:Rows.scriptModelsRow.wfByText (OpenSpec.ofChange Rows.scriptModelsSpec)=true:=kR
end Go.Proofs.YtpejdgiccaijfaaGreatDoor.scriptModels
