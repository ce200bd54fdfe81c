/- What an array of blocks is behind ops, and wha -/
import Derived.Test.YtpejdgiccaijfaaGreatDoorWS
import Derived.Test.YtpejdgiccaijfaaGreatDoorWP
import Derived.Test.YtpejdgiccaijfaaGreatDoorWW
import Derived.Test.YtpejdgiccaijfaaGreatDoorWG
namespace Go.Proofs.YtpejdgiccaijfaaGreatDoor.scriptModels
open Go Go.RowKit Go.ChangeShapes Go.WideShapes Go.ChangeAt Go.Proofs.YtpejdgiccaijfaaGreatDoor
theorem card:Rows.ScriptModelsCardSaid:=
 Claim7.holds_tied_plain_at .later [] _ _ _ _ zeB (fun _ h=>by cases h) cw (fun _ h=>by cases h) scriptModels_row_tie rfl ⟨rfl,rfl⟩ kR rfl plain cg
end Go.Proofs.YtpejdgiccaijfaaGreatDoor.scriptModels
