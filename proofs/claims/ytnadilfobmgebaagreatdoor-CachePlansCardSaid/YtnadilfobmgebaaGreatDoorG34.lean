/- Failures: their numbers, which may be, and the failure of numbers. A thing of the kind Failure, as a sector. The form of the kind Failure; Put of a thing. -/
import Derived.Test.YtnadilfobmgebaaGreatDoorG12
import Derived.Test.YtnadilfobmgebaaGreatDoorG33
import Derived.Laws.EntriesVeiled
namespace Go.Proofs.YtnadilfobmgebaaGreatDoor
open Go Go.RowKit
end Go.Proofs.YtnadilfobmgebaaGreatDoor
