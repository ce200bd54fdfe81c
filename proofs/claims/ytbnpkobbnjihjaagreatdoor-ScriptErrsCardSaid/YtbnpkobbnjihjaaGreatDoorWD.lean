/- Which ops, and runs, there are not. The card. -/
import Derived.Test.YtbnpkobbnjihjaaGreatDoorWS
import Derived.Test.YtbnpkobbnjihjaaGreatDoorWP
import Derived.Test.YtbnpkobbnjihjaaGreatDoorWW
import Derived.Test.YtbnpkobbnjihjaaGreatDoorWG
namespace Go.Proofs.YtbnpkobbnjihjaaGreatDoor.scriptErrs
open Go Go.RowKit Go.ChangeShapes Go.WideShapes Go.ChangeAt Go.Proofs.YtbnpkobbnjihjaaGreatDoor
theorem card:Rows.ScriptErrsCardSaid:=
 Claim7.holds_tied_plain_at .later [] _ _ _ _ zhA (fun _ h=>by cases h) cw (fun _ h=>by cases h) scriptErrs_row_tie rfl ⟨rfl,rfl⟩ kR rfl plain cg
end Go.Proofs.YtbnpkobbnjihjaaGreatDoor.scriptErrs
