/- Ticks turn nothing that is read: a script with -/
import Derived.Test.YtpejdgiccaijfaaGreatDoorWS
import Derived.Test.YtpejdgiccaijfaaGreatDoorWP
import Derived.Test.YtpejdgiccaijfaaGreatDoorWW
import Derived.Test.YtpejdgiccaijfaaGreatDoorWG
namespace Go.Proofs.YtpejdgiccaijfaaGreatDoor.scriptTicks
open Go Go.RowKit Go.ChangeShapes Go.WideShapes Go.ChangeAt Go.Proofs.YtpejdgiccaijfaaGreatDoor
theorem card:Rows.ScriptTicksCardSaid:=
 Claim7.holds_tied_plain_at .later [] _ _ _ _ zhg (fun _ h=>by cases h) cw (fun _ h=>by cases h) scriptTicks_row_tie rfl ⟨rfl,rfl⟩ kR rfl plain cg
end Go.Proofs.YtpejdgiccaijfaaGreatDoor.scriptTicks
