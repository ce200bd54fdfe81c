/- Failures: the failure of numbers; a failure's numbers. The intent that a sector is. The intent that a sector is: GetFailure. Failures: a failure's numbers. -/
import Derived.Test.YtnadilfobmgebaaGreatDoorG34
import Derived.Test.YtnadilfobmgebaaGreatDoorG25
import Derived.Test.YtnadilfobmgebaaGreatDoorG12
import Derived.Test.YtnadilfobmgebaaGreatDoorG22
namespace Go.Proofs.YtnadilfobmgebaaGreatDoor
open Go Go.RowKit
end Go.Proofs.YtnadilfobmgebaaGreatDoor
