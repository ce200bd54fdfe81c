/- A cache: put. A cache: what bounds its numbers; room, whatever there is. The iterators over a clock's keys, and over its ghosts: their contracts. All, Ghosts: which iterators they give. -/
import Derived.Test.YtfhfbpmlnjdfoaaGreatDoorA36
import Derived.Test.YtfhfbpmlnjdfoaaGreatDoorA25
import Derived.Test.YtfhfbpmlnjdfoaaGreatDoorA26
import Derived.RangeFuncNested
import Derived.RangeFuncBound
import Derived.RangeFuncCalls
import Derived.RangeFuncLeaves
import Derived.RangeFuncBox
import Derived.Shelf.Abstract
import Derived.WalkKit
import Derived.OwnWalkIn
import Derived.TacticsInMore
import Derived.LoopNIn
import Derived.LoopIn
import Derived.BigRegionIn
import Derived.Shelf.RegionOpen
import Derived.Maps.AppendAt
import Derived.Test.YtfhfbpmlnjdfoaaGreatDoorA22
namespace Go.Proofs.YtfhfbpmlnjdfoaaGreatDoor
open Go Go.RowKit
end Go.Proofs.YtfhfbpmlnjdfoaaGreatDoor
namespace Go.Proofs.YtfhfbpmlnjdfoaaGreatDoor
open Go Go.RowKit Go.Shelf
attribute [local go_sem] Oper.semAt_some
end Go.Proofs.YtfhfbpmlnjdfoaaGreatDoor
