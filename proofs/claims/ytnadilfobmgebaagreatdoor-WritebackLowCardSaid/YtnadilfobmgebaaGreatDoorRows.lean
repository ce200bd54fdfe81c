/-
  NARROWER THAN 'FOR EVERY INPUT', by the rows' own cells (each row's printed sentence says how): LogsWrong: laid · LogsApart: laid · LogsLasts: laid · LogsWaits: laid · CachePlans: laid · WritebackParts: laid · WritebackLow: laid · WritebackSteps: laid · WritebackFails: laid · WritebackDrains: laid.
  DERIVED. THE GIVEN ROWS OF THIS SEAT. 10 by the template 'for every input the law returns true; each argument reads behind the call as it read before'; 0 by the template 'total and deterministic' (their statements: YtnadilfobmgebaaGreatDoorTotals.lean).
  GIVEN WITH THE SEED: the statements are not yours to turn. If you find one false, say at which input.
  Laid BY PROGRAM, IN A SANDBOX (cutbox-rows.mjs): the forced cells as the released guide's own fill.sh prints them over the translation bff2816cc020f819… (all of the seat's roots in one cut). By AI agents, Wed Nov 11 2026. No macro, syntax, notation, axiom, sorry.
-/
import Derived.Test.YtnadilfobmgebaaGreatDoorChecked
import GoSem.Claim
import GoSem.ClaimJoined
import GoSem.ClaimMapViews
import Derived.JoinedTies
import Derived.KernelRfl
namespace Go.Proofs.YtnadilfobmgebaaGreatDoor
/- THE CELL 'sum', in the pinned program and in every row, IS THE sha256 OF THE DUMP (.gsa) THAT YtnadilfobmgebaaGreatDoorProg.lean LOADS. Nothing in Lean hashes anything: it is a label: what it is worth is what the hold of that sum in a sandbox is worth. -/
noncomputable def Tryz.pinned : Pinned := { name := "ytnadilfobmgebaagreatdoor", sum := "bff2816cc020f81983bc7f1d60de932bdf3c0af671971a14d8576ddd417066cb", checked := Tryz.checked }
namespace Rows
def none {H : Type} : Left H := { results := [], args := [] }

/- WHAT THE LISTED PACKAGE-LEVEL VARIABLES READ AS WHEN THE CALL BEGINS. Each datum BY PROGRAM (the guide's laid-datum.mjs) off the statement by which the dump's own 'gosem.cut.vars' lays the variable. In a bare row this is a premise. The card (YtnadilfobmgebaaGreatDoorCards.lean) ties it to the program's text. -/
def laid_lavabo_crc_nibbles {H : Type} : DataW H := .agg [.lit (.int .i64 0), .lit (.int .i64 274646895), .lit (.int .i64 549293790), .lit (.int .i64 820201905), .lit (.int .i64 1098587580), .lit (.int .i64 1361435347), .lit (.int .i64 1640403810), .lit (.int .i64 1905808397), .lit (.int .i64 2197175160), .lit (.int .i64 2460548119), .lit (.int .i64 2722870694), .lit (.int .i64 2987750089), .lit (.int .i64 3280807620), .lit (.int .i64 3553878443), .lit (.int .i64 3811616794), .lit (.int .i64 4084100981)]
def laid_lavabo_slots_turns {H : Type} : DataW H := .agg [.lit (.int .i64 2), .lit (.int .i64 28), .lit (.int .i64 24), .lit (.int .i64 17), .lit (.int .i64 0)]

/-- 'lavabolaw17.LogsWrong': WHATEVER THE INPUT: true; the input reads as it did. -/
def logsWrongSpec : ChangeSpec := { name := "logsWrong", fn := fun _ => fun
  | [d1, d2, d3] => { results := [.lit (.bool true)], args := [d1, d2, d3] }
  | _ => none }
def logsWrongRow : OpenClaim := { program := "ytnadilfobmgebaagreatdoor", sum := "bff2816cc020f81983bc7f1d60de932bdf3c0af671971a14d8576ddd417066cb", func := "lavabo/lavabolaw17.LogsWrong", spec := "logsWrong", unfollowed := true, recurses := true, named := ["lavabo/slots.turns", "lavabo/crc.nibbles"], apart := false, laid := [("lavabo/crc.nibbles", laid_lavabo_crc_nibbles), ("lavabo/slots.turns", laid_lavabo_slots_turns)] }
def LogsWrongSaid : Prop := logsWrongRow.holds Tryz.pinned (OpenSpec.ofChange logsWrongSpec)

/-- ITS FALSE NEIGHBOUR: 'it returns false'. Refute it at one input. -/
def logsWrongWrong : ChangeSpec := { name := "logsWrong", fn := fun _ => fun
  | [d1, d2, d3] => { results := [.lit (.bool false)], args := [d1, d2, d3] }
  | _ => none }
def LogsWrongWrongFalsely : Prop := logsWrongRow.holds Tryz.pinned (OpenSpec.ofChange logsWrongWrong)

/-- 'lavabolaw17.LogsApart': WHATEVER THE INPUT: true; the input reads as it did. -/
def logsApartSpec : ChangeSpec := { name := "logsApart", fn := fun _ => fun
  | [d1, d2, d3] => { results := [.lit (.bool true)], args := [d1, d2, d3] }
  | _ => none }
def logsApartRow : OpenClaim := { program := "ytnadilfobmgebaagreatdoor", sum := "bff2816cc020f81983bc7f1d60de932bdf3c0af671971a14d8576ddd417066cb", func := "lavabo/lavabolaw17.LogsApart", spec := "logsApart", unfollowed := true, recurses := true, named := ["lavabo/slots.turns", "lavabo/crc.nibbles"], apart := false, laid := [("lavabo/crc.nibbles", laid_lavabo_crc_nibbles), ("lavabo/slots.turns", laid_lavabo_slots_turns)] }
def LogsApartSaid : Prop := logsApartRow.holds Tryz.pinned (OpenSpec.ofChange logsApartSpec)

/-- ITS FALSE NEIGHBOUR: 'it returns false'. Refute it at one input. -/
def logsApartWrong : ChangeSpec := { name := "logsApart", fn := fun _ => fun
  | [d1, d2, d3] => { results := [.lit (.bool false)], args := [d1, d2, d3] }
  | _ => none }
def LogsApartWrongFalsely : Prop := logsApartRow.holds Tryz.pinned (OpenSpec.ofChange logsApartWrong)

/-- 'lavabolaw17.LogsLasts': WHATEVER THE INPUT: true; the input reads as it did. -/
def logsLastsSpec : ChangeSpec := { name := "logsLasts", fn := fun _ => fun
  | [d1, d2, d3] => { results := [.lit (.bool true)], args := [d1, d2, d3] }
  | _ => none }
def logsLastsRow : OpenClaim := { program := "ytnadilfobmgebaagreatdoor", sum := "bff2816cc020f81983bc7f1d60de932bdf3c0af671971a14d8576ddd417066cb", func := "lavabo/lavabolaw17.LogsLasts", spec := "logsLasts", unfollowed := true, recurses := true, named := ["lavabo/slots.turns", "lavabo/crc.nibbles"], apart := false, laid := [("lavabo/crc.nibbles", laid_lavabo_crc_nibbles), ("lavabo/slots.turns", laid_lavabo_slots_turns)] }
def LogsLastsSaid : Prop := logsLastsRow.holds Tryz.pinned (OpenSpec.ofChange logsLastsSpec)

/-- ITS FALSE NEIGHBOUR: 'it returns false'. Refute it at one input. -/
def logsLastsWrong : ChangeSpec := { name := "logsLasts", fn := fun _ => fun
  | [d1, d2, d3] => { results := [.lit (.bool false)], args := [d1, d2, d3] }
  | _ => none }
def LogsLastsWrongFalsely : Prop := logsLastsRow.holds Tryz.pinned (OpenSpec.ofChange logsLastsWrong)

/-- 'lavabolaw17.LogsWaits': WHATEVER THE INPUT: true; the input reads as it did. -/
def logsWaitsSpec : ChangeSpec := { name := "logsWaits", fn := fun _ => fun
  | [d] => { results := [.lit (.bool true)], args := [d] }
  | _ => none }
def logsWaitsRow : OpenClaim := { program := "ytnadilfobmgebaagreatdoor", sum := "bff2816cc020f81983bc7f1d60de932bdf3c0af671971a14d8576ddd417066cb", func := "lavabo/lavabolaw17.LogsWaits", spec := "logsWaits", unfollowed := true, recurses := true, named := ["lavabo/slots.turns", "lavabo/crc.nibbles"], apart := false, laid := [("lavabo/crc.nibbles", laid_lavabo_crc_nibbles), ("lavabo/slots.turns", laid_lavabo_slots_turns)] }
def LogsWaitsSaid : Prop := logsWaitsRow.holds Tryz.pinned (OpenSpec.ofChange logsWaitsSpec)

/-- ITS FALSE NEIGHBOUR: 'it returns false'. Refute it at one input. -/
def logsWaitsWrong : ChangeSpec := { name := "logsWaits", fn := fun _ => fun
  | [d] => { results := [.lit (.bool false)], args := [d] }
  | _ => none }
def LogsWaitsWrongFalsely : Prop := logsWaitsRow.holds Tryz.pinned (OpenSpec.ofChange logsWaitsWrong)

/-- 'lavabolaw14.CachePlans': WHATEVER THE INPUT: true; the input reads as it did. -/
def cachePlansSpec : ChangeSpec := { name := "cachePlans", fn := fun _ => fun
  | [d] => { results := [.lit (.bool true)], args := [d] }
  | _ => none }
def cachePlansRow : OpenClaim := { program := "ytnadilfobmgebaagreatdoor", sum := "bff2816cc020f81983bc7f1d60de932bdf3c0af671971a14d8576ddd417066cb", func := "lavabo/lavabolaw14.CachePlans", spec := "cachePlans", inPlace := ["maps.clone"], unfollowed := true, recurses := true, named := ["lavabo/slots.turns", "lavabo/crc.nibbles"], apart := false, laid := [("lavabo/crc.nibbles", laid_lavabo_crc_nibbles), ("lavabo/slots.turns", laid_lavabo_slots_turns)] }
def CachePlansSaid : Prop := cachePlansRow.holds Tryz.pinned (OpenSpec.ofChange cachePlansSpec)

/-- ITS FALSE NEIGHBOUR: 'it returns false'. Refute it at one input. -/
def cachePlansWrong : ChangeSpec := { name := "cachePlans", fn := fun _ => fun
  | [d] => { results := [.lit (.bool false)], args := [d] }
  | _ => none }
def CachePlansWrongFalsely : Prop := cachePlansRow.holds Tryz.pinned (OpenSpec.ofChange cachePlansWrong)

/-- 'lavabolaw15.WritebackParts': WHATEVER THE INPUT: true; the input reads as it did. -/
def writebackPartsSpec : ChangeSpec := { name := "writebackParts", fn := fun _ => fun
  | [d1, d2, d3] => { results := [.lit (.bool true)], args := [d1, d2, d3] }
  | _ => none }
def writebackPartsRow : OpenClaim := { program := "ytnadilfobmgebaagreatdoor", sum := "bff2816cc020f81983bc7f1d60de932bdf3c0af671971a14d8576ddd417066cb", func := "lavabo/lavabolaw15.WritebackParts", spec := "writebackParts", inPlace := ["maps.clone"], unfollowed := true, recurses := true, named := ["lavabo/slots.turns", "lavabo/crc.nibbles"], apart := false, laid := [("lavabo/crc.nibbles", laid_lavabo_crc_nibbles), ("lavabo/slots.turns", laid_lavabo_slots_turns)] }
def WritebackPartsSaid : Prop := writebackPartsRow.holds Tryz.pinned (OpenSpec.ofChange writebackPartsSpec)

/-- ITS FALSE NEIGHBOUR: 'it returns false'. Refute it at one input. -/
def writebackPartsWrong : ChangeSpec := { name := "writebackParts", fn := fun _ => fun
  | [d1, d2, d3] => { results := [.lit (.bool false)], args := [d1, d2, d3] }
  | _ => none }
def WritebackPartsWrongFalsely : Prop := writebackPartsRow.holds Tryz.pinned (OpenSpec.ofChange writebackPartsWrong)

/-- 'lavabolaw15.WritebackLow': WHATEVER THE INPUT: true; the input reads as it did. -/
def writebackLowSpec : ChangeSpec := { name := "writebackLow", fn := fun _ => fun
  | [d1, d2, d3] => { results := [.lit (.bool true)], args := [d1, d2, d3] }
  | _ => none }
def writebackLowRow : OpenClaim := { program := "ytnadilfobmgebaagreatdoor", sum := "bff2816cc020f81983bc7f1d60de932bdf3c0af671971a14d8576ddd417066cb", func := "lavabo/lavabolaw15.WritebackLow", spec := "writebackLow", inPlace := ["maps.clone"], unfollowed := true, recurses := true, named := ["lavabo/slots.turns", "lavabo/crc.nibbles"], apart := false, laid := [("lavabo/crc.nibbles", laid_lavabo_crc_nibbles), ("lavabo/slots.turns", laid_lavabo_slots_turns)] }
def WritebackLowSaid : Prop := writebackLowRow.holds Tryz.pinned (OpenSpec.ofChange writebackLowSpec)

/-- ITS FALSE NEIGHBOUR: 'it returns false'. Refute it at one input. -/
def writebackLowWrong : ChangeSpec := { name := "writebackLow", fn := fun _ => fun
  | [d1, d2, d3] => { results := [.lit (.bool false)], args := [d1, d2, d3] }
  | _ => none }
def WritebackLowWrongFalsely : Prop := writebackLowRow.holds Tryz.pinned (OpenSpec.ofChange writebackLowWrong)

/-- 'lavabolaw15.WritebackSteps': WHATEVER THE INPUT: true; the input reads as it did. -/
def writebackStepsSpec : ChangeSpec := { name := "writebackSteps", fn := fun _ => fun
  | [d1, d2, d3] => { results := [.lit (.bool true)], args := [d1, d2, d3] }
  | _ => none }
def writebackStepsRow : OpenClaim := { program := "ytnadilfobmgebaagreatdoor", sum := "bff2816cc020f81983bc7f1d60de932bdf3c0af671971a14d8576ddd417066cb", func := "lavabo/lavabolaw15.WritebackSteps", spec := "writebackSteps", inPlace := ["maps.clone"], unfollowed := true, recurses := true, named := ["lavabo/slots.turns", "lavabo/crc.nibbles"], apart := false, laid := [("lavabo/crc.nibbles", laid_lavabo_crc_nibbles), ("lavabo/slots.turns", laid_lavabo_slots_turns)] }
def WritebackStepsSaid : Prop := writebackStepsRow.holds Tryz.pinned (OpenSpec.ofChange writebackStepsSpec)

/-- ITS FALSE NEIGHBOUR: 'it returns false'. Refute it at one input. -/
def writebackStepsWrong : ChangeSpec := { name := "writebackSteps", fn := fun _ => fun
  | [d1, d2, d3] => { results := [.lit (.bool false)], args := [d1, d2, d3] }
  | _ => none }
def WritebackStepsWrongFalsely : Prop := writebackStepsRow.holds Tryz.pinned (OpenSpec.ofChange writebackStepsWrong)

/-- 'lavabolaw15.WritebackFails': WHATEVER THE INPUT: true; the input reads as it did. -/
def writebackFailsSpec : ChangeSpec := { name := "writebackFails", fn := fun _ => fun
  | [d1, d2, d3] => { results := [.lit (.bool true)], args := [d1, d2, d3] }
  | _ => none }
def writebackFailsRow : OpenClaim := { program := "ytnadilfobmgebaagreatdoor", sum := "bff2816cc020f81983bc7f1d60de932bdf3c0af671971a14d8576ddd417066cb", func := "lavabo/lavabolaw15.WritebackFails", spec := "writebackFails", inPlace := ["maps.clone"], unfollowed := true, recurses := true, named := ["lavabo/slots.turns", "lavabo/crc.nibbles"], apart := false, laid := [("lavabo/crc.nibbles", laid_lavabo_crc_nibbles), ("lavabo/slots.turns", laid_lavabo_slots_turns)] }
def WritebackFailsSaid : Prop := writebackFailsRow.holds Tryz.pinned (OpenSpec.ofChange writebackFailsSpec)

/-- ITS FALSE NEIGHBOUR: 'it returns false'. Refute it at one input. -/
def writebackFailsWrong : ChangeSpec := { name := "writebackFails", fn := fun _ => fun
  | [d1, d2, d3] => { results := [.lit (.bool false)], args := [d1, d2, d3] }
  | _ => none }
def WritebackFailsWrongFalsely : Prop := writebackFailsRow.holds Tryz.pinned (OpenSpec.ofChange writebackFailsWrong)

/-- 'lavabolaw15.WritebackDrains': WHATEVER THE INPUT: true; the input reads as it did. -/
def writebackDrainsSpec : ChangeSpec := { name := "writebackDrains", fn := fun _ => fun
  | [d1, d2, d3] => { results := [.lit (.bool true)], args := [d1, d2, d3] }
  | _ => none }
def writebackDrainsRow : OpenClaim := { program := "ytnadilfobmgebaagreatdoor", sum := "bff2816cc020f81983bc7f1d60de932bdf3c0af671971a14d8576ddd417066cb", func := "lavabo/lavabolaw15.WritebackDrains", spec := "writebackDrains", inPlace := ["maps.clone"], unfollowed := true, recurses := true, named := ["lavabo/slots.turns", "lavabo/crc.nibbles"], apart := false, laid := [("lavabo/crc.nibbles", laid_lavabo_crc_nibbles), ("lavabo/slots.turns", laid_lavabo_slots_turns)] }
def WritebackDrainsSaid : Prop := writebackDrainsRow.holds Tryz.pinned (OpenSpec.ofChange writebackDrainsSpec)

/-- ITS FALSE NEIGHBOUR: 'it returns false'. Refute it at one input. -/
def writebackDrainsWrong : ChangeSpec := { name := "writebackDrains", fn := fun _ => fun
  | [d1, d2, d3] => { results := [.lit (.bool false)], args := [d1, d2, d3] }
  | _ => none }
def WritebackDrainsWrongFalsely : Prop := writebackDrainsRow.holds Tryz.pinned (OpenSpec.ofChange writebackDrainsWrong)

/- THE SECOND FORM. 'bulk': how many values and letters a reading holds, each counted each time it is reached (what is shared counts as often as it is met; a slice's spare places count too). A statement '..UptoSaid' is the law's where the arguments, and the package variables that the reading takes, are together of bulk at most 1048576: NARROWER than '..Said'. Prove '..Said' where nothing that the law and all that it calls make is longer than what came in: it says more and counts as full. Else prove '..UptoSaid'. A law counts once. -/
mutual
def uptoBulk {H : Type} : DataW H → Nat
  | .lit (.string bytes) => bytes.length + 1
  | .lit _ => 1
  | .nil => 1
  | .ptr d => uptoBulk d + 1
  | .slice elems spare => uptoBulkAll elems + uptoBulkAll spare + 1
  | .agg parts => uptoBulkAll parts + 1
  | .iface _ d => uptoBulk d + 1
  | .map entries => uptoBulkEntries entries + 1
  | .held _ => 1
def uptoBulkAll {H : Type} : List (DataW H) → Nat
  | [] => 0
  | d :: r => uptoBulk d + uptoBulkAll r
def uptoBulkEntries {H : Type} : List (Lit × DataW H) → Nat
  | [] => 0
  | x :: r => uptoBulkEntry x + uptoBulkEntries r
def uptoBulkEntry {H : Type} : Lit × DataW H → Nat
  | (.string bytes, d) => bytes.length + uptoBulk d + 1
  | (_, d) => uptoBulk d + 1
 end
def uptoSmall : (H : Type) → List (DataW H) → Bool := fun _ ds => decide (uptoBulkAll ds ≤ 1048576)
def OpenSpec.upto (s : _root_.Go.ChangeSpec) : _root_.Go.OpenSpec := { _root_.Go.OpenSpec.ofChange s with cond := some uptoSmall }

/-- 'lavabolaw17.LogsWrong', WHERE WHAT IT READS IS OF BULK AT MOST 1048576: true; the input reads as it did. -/
def logsWrongUptoRow : OpenClaim := { program := "ytnadilfobmgebaagreatdoor", sum := "bff2816cc020f81983bc7f1d60de932bdf3c0af671971a14d8576ddd417066cb", func := "lavabo/lavabolaw17.LogsWrong", spec := "logsWrong", unfollowed := true, recurses := true, named := ["lavabo/slots.turns", "lavabo/crc.nibbles"], apart := false, laid := [("lavabo/crc.nibbles", laid_lavabo_crc_nibbles), ("lavabo/slots.turns", laid_lavabo_slots_turns)], narrowed := true }
def LogsWrongUptoSaid : Prop := logsWrongUptoRow.holds Tryz.pinned (OpenSpec.upto logsWrongSpec)

/-- 'lavabolaw17.LogsApart', WHERE WHAT IT READS IS OF BULK AT MOST 1048576: true; the input reads as it did. -/
def logsApartUptoRow : OpenClaim := { program := "ytnadilfobmgebaagreatdoor", sum := "bff2816cc020f81983bc7f1d60de932bdf3c0af671971a14d8576ddd417066cb", func := "lavabo/lavabolaw17.LogsApart", spec := "logsApart", unfollowed := true, recurses := true, named := ["lavabo/slots.turns", "lavabo/crc.nibbles"], apart := false, laid := [("lavabo/crc.nibbles", laid_lavabo_crc_nibbles), ("lavabo/slots.turns", laid_lavabo_slots_turns)], narrowed := true }
def LogsApartUptoSaid : Prop := logsApartUptoRow.holds Tryz.pinned (OpenSpec.upto logsApartSpec)

/-- 'lavabolaw17.LogsLasts', WHERE WHAT IT READS IS OF BULK AT MOST 1048576: true; the input reads as it did. -/
def logsLastsUptoRow : OpenClaim := { program := "ytnadilfobmgebaagreatdoor", sum := "bff2816cc020f81983bc7f1d60de932bdf3c0af671971a14d8576ddd417066cb", func := "lavabo/lavabolaw17.LogsLasts", spec := "logsLasts", unfollowed := true, recurses := true, named := ["lavabo/slots.turns", "lavabo/crc.nibbles"], apart := false, laid := [("lavabo/crc.nibbles", laid_lavabo_crc_nibbles), ("lavabo/slots.turns", laid_lavabo_slots_turns)], narrowed := true }
def LogsLastsUptoSaid : Prop := logsLastsUptoRow.holds Tryz.pinned (OpenSpec.upto logsLastsSpec)

/-- 'lavabolaw17.LogsWaits', WHERE WHAT IT READS IS OF BULK AT MOST 1048576: true; the input reads as it did. -/
def logsWaitsUptoRow : OpenClaim := { program := "ytnadilfobmgebaagreatdoor", sum := "bff2816cc020f81983bc7f1d60de932bdf3c0af671971a14d8576ddd417066cb", func := "lavabo/lavabolaw17.LogsWaits", spec := "logsWaits", unfollowed := true, recurses := true, named := ["lavabo/slots.turns", "lavabo/crc.nibbles"], apart := false, laid := [("lavabo/crc.nibbles", laid_lavabo_crc_nibbles), ("lavabo/slots.turns", laid_lavabo_slots_turns)], narrowed := true }
def LogsWaitsUptoSaid : Prop := logsWaitsUptoRow.holds Tryz.pinned (OpenSpec.upto logsWaitsSpec)

/-- 'lavabolaw14.CachePlans', WHERE WHAT IT READS IS OF BULK AT MOST 1048576: true; the input reads as it did. -/
def cachePlansUptoRow : OpenClaim := { program := "ytnadilfobmgebaagreatdoor", sum := "bff2816cc020f81983bc7f1d60de932bdf3c0af671971a14d8576ddd417066cb", func := "lavabo/lavabolaw14.CachePlans", spec := "cachePlans", inPlace := ["maps.clone"], unfollowed := true, recurses := true, named := ["lavabo/slots.turns", "lavabo/crc.nibbles"], apart := false, laid := [("lavabo/crc.nibbles", laid_lavabo_crc_nibbles), ("lavabo/slots.turns", laid_lavabo_slots_turns)], narrowed := true }
def CachePlansUptoSaid : Prop := cachePlansUptoRow.holds Tryz.pinned (OpenSpec.upto cachePlansSpec)

/-- 'lavabolaw15.WritebackParts', WHERE WHAT IT READS IS OF BULK AT MOST 1048576: true; the input reads as it did. -/
def writebackPartsUptoRow : OpenClaim := { program := "ytnadilfobmgebaagreatdoor", sum := "bff2816cc020f81983bc7f1d60de932bdf3c0af671971a14d8576ddd417066cb", func := "lavabo/lavabolaw15.WritebackParts", spec := "writebackParts", inPlace := ["maps.clone"], unfollowed := true, recurses := true, named := ["lavabo/slots.turns", "lavabo/crc.nibbles"], apart := false, laid := [("lavabo/crc.nibbles", laid_lavabo_crc_nibbles), ("lavabo/slots.turns", laid_lavabo_slots_turns)], narrowed := true }
def WritebackPartsUptoSaid : Prop := writebackPartsUptoRow.holds Tryz.pinned (OpenSpec.upto writebackPartsSpec)

/-- 'lavabolaw15.WritebackLow', WHERE WHAT IT READS IS OF BULK AT MOST 1048576: true; the input reads as it did. -/
def writebackLowUptoRow : OpenClaim := { program := "ytnadilfobmgebaagreatdoor", sum := "bff2816cc020f81983bc7f1d60de932bdf3c0af671971a14d8576ddd417066cb", func := "lavabo/lavabolaw15.WritebackLow", spec := "writebackLow", inPlace := ["maps.clone"], unfollowed := true, recurses := true, named := ["lavabo/slots.turns", "lavabo/crc.nibbles"], apart := false, laid := [("lavabo/crc.nibbles", laid_lavabo_crc_nibbles), ("lavabo/slots.turns", laid_lavabo_slots_turns)], narrowed := true }
def WritebackLowUptoSaid : Prop := writebackLowUptoRow.holds Tryz.pinned (OpenSpec.upto writebackLowSpec)

/-- 'lavabolaw15.WritebackSteps', WHERE WHAT IT READS IS OF BULK AT MOST 1048576: true; the input reads as it did. -/
def writebackStepsUptoRow : OpenClaim := { program := "ytnadilfobmgebaagreatdoor", sum := "bff2816cc020f81983bc7f1d60de932bdf3c0af671971a14d8576ddd417066cb", func := "lavabo/lavabolaw15.WritebackSteps", spec := "writebackSteps", inPlace := ["maps.clone"], unfollowed := true, recurses := true, named := ["lavabo/slots.turns", "lavabo/crc.nibbles"], apart := false, laid := [("lavabo/crc.nibbles", laid_lavabo_crc_nibbles), ("lavabo/slots.turns", laid_lavabo_slots_turns)], narrowed := true }
def WritebackStepsUptoSaid : Prop := writebackStepsUptoRow.holds Tryz.pinned (OpenSpec.upto writebackStepsSpec)

/-- 'lavabolaw15.WritebackFails', WHERE WHAT IT READS IS OF BULK AT MOST 1048576: true; the input reads as it did. -/
def writebackFailsUptoRow : OpenClaim := { program := "ytnadilfobmgebaagreatdoor", sum := "bff2816cc020f81983bc7f1d60de932bdf3c0af671971a14d8576ddd417066cb", func := "lavabo/lavabolaw15.WritebackFails", spec := "writebackFails", inPlace := ["maps.clone"], unfollowed := true, recurses := true, named := ["lavabo/slots.turns", "lavabo/crc.nibbles"], apart := false, laid := [("lavabo/crc.nibbles", laid_lavabo_crc_nibbles), ("lavabo/slots.turns", laid_lavabo_slots_turns)], narrowed := true }
def WritebackFailsUptoSaid : Prop := writebackFailsUptoRow.holds Tryz.pinned (OpenSpec.upto writebackFailsSpec)

/-- 'lavabolaw15.WritebackDrains', WHERE WHAT IT READS IS OF BULK AT MOST 1048576: true; the input reads as it did. -/
def writebackDrainsUptoRow : OpenClaim := { program := "ytnadilfobmgebaagreatdoor", sum := "bff2816cc020f81983bc7f1d60de932bdf3c0af671971a14d8576ddd417066cb", func := "lavabo/lavabolaw15.WritebackDrains", spec := "writebackDrains", inPlace := ["maps.clone"], unfollowed := true, recurses := true, named := ["lavabo/slots.turns", "lavabo/crc.nibbles"], apart := false, laid := [("lavabo/crc.nibbles", laid_lavabo_crc_nibbles), ("lavabo/slots.turns", laid_lavabo_slots_turns)], narrowed := true }
def WritebackDrainsUptoSaid : Prop := writebackDrainsUptoRow.holds Tryz.pinned (OpenSpec.upto writebackDrainsSpec)

end Rows
end Go.Proofs.YtnadilfobmgebaaGreatDoor
