/- A log: Get. -/
import Derived.Test.YtnadilfobmgebaaGreatDoorG25
import Derived.Test.YtnadilfobmgebaaGreatDoorG27
namespace Go.Proofs.YtnadilfobmgebaaGreatDoor
open Go Go.RowKit
end Go.Proofs.YtnadilfobmgebaaGreatDoor
