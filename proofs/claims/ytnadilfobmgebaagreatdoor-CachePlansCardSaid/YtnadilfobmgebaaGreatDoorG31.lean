/- A log: Get. A log: All. -/
import Derived.Test.YtnadilfobmgebaaGreatDoorG25
import Derived.Test.YtnadilfobmgebaaGreatDoorG30
import Derived.Test.YtnadilfobmgebaaGreatDoorG29
import Derived.Deep.LoopGhost
namespace Go.Proofs.YtnadilfobmgebaaGreatDoor
open Go Go.RowKit
end Go.Proofs.YtnadilfobmgebaaGreatDoor
