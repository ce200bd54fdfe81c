/- What a function answers that is handed in (guard), for a log's things. What a function answers that is handed in (guard), for a log's things. A log: number, New, Len. A log: number, New, Len. -/
import Derived.Test.YtfhfbpmlnjdfoaaGreatDoorG27
import Derived.Defers
import Derived.Recover
namespace Go.Proofs.YtfhfbpmlnjdfoaaGreatDoor
open Go Go.RowKit
end Go.Proofs.YtfhfbpmlnjdfoaaGreatDoor
