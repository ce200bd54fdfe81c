/- A cache: spare. A cache: Evict. A cache: take. The index, the slots and the clock of a cache go together. -/
import Derived.Test.YtfhfbpmlnjdfoaaGreatDoorA37
namespace Go.Proofs.YtfhfbpmlnjdfoaaGreatDoor
open Go Go.RowKit Go.Shelf
attribute [local go_sem] Oper.semAt_some
end Go.Proofs.YtfhfbpmlnjdfoaaGreatDoor
namespace Go.Proofs.YtfhfbpmlnjdfoaaGreatDoor
open Go Go.RowKit
end Go.Proofs.YtfhfbpmlnjdfoaaGreatDoor
