/- The intent that a sector is. The intent that a sector is: GetCert. A certificate's sector is that certificate. The log of certificates: its kind of things. Failures: their sectors, which may be. -/
import Derived.Test.YtnadilfobmgebaaGreatDoorG32
import Derived.Test.YtnadilfobmgebaaGreatDoorG12
import Derived.Test.YtnadilfobmgebaaGreatDoorG22
import Derived.Test.YtnadilfobmgebaaGreatDoorG31
import Derived.Test.YtnadilfobmgebaaGreatDoorG11
namespace Go.Proofs.YtnadilfobmgebaaGreatDoor
open Go Go.RowKit
end Go.Proofs.YtnadilfobmgebaaGreatDoor
