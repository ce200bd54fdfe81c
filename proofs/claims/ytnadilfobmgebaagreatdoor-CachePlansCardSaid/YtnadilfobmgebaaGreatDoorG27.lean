/- A log: Put. -/
import Derived.Test.YtnadilfobmgebaaGreatDoorG24
import Derived.Test.YtnadilfobmgebaaGreatDoorG26
namespace Go.Proofs.YtnadilfobmgebaaGreatDoor
open Go Go.RowKit
end Go.Proofs.YtnadilfobmgebaaGreatDoor
