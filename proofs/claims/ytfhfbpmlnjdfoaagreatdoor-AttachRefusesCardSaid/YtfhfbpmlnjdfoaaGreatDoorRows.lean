/-
  NARROWER THAN 'FOR EVERY INPUT', by the rows' own cells (each row's printed sentence says how): AttachApplies: laid · AttachFormats: laid · CacheWipes: laid · AttachRecords: laid · AttachStops: laid · AttachRefuses: laid · AttachTwice: laid.
  DERIVED. THE GIVEN ROWS OF THIS SEAT. 7 by the template 'for every input the law returns true; each argument reads behind the call as it read before'; 0 by the template 'total and deterministic' (their statements: YtfhfbpmlnjdfoaaGreatDoorTotals.lean).
  GIVEN WITH THE SEED: the statements are not yours to turn. If you find one false, say at which input.
  Laid BY PROGRAM, IN A SANDBOX (cutbox-rows.mjs): the forced cells as the released guide's own fill.sh prints them over the translation 47b597f1b7dd3073… (all of the seat's roots in one cut). By AI agents, Wed Nov 11 2026. No macro, syntax, notation, axiom, sorry.
-/
import Derived.Test.YtfhfbpmlnjdfoaaGreatDoorChecked
import GoSem.Claim
import GoSem.ClaimJoined
import GoSem.ClaimMapViews
import Derived.JoinedTies
import Derived.KernelRfl
namespace Go.Proofs.YtfhfbpmlnjdfoaaGreatDoor
/- THE CELL 'sum', in the pinned program and in every row, IS THE sha256 OF THE DUMP (.gsa) THAT YtfhfbpmlnjdfoaaGreatDoorProg.lean LOADS. Nothing in Lean hashes anything: it is a label: what it is worth is what the hold of that sum in a sandbox is worth. -/
noncomputable def Tryz.pinned : Pinned := { name := "ytfhfbpmlnjdfoaagreatdoor", sum := "47b597f1b7dd3073029f6819a2db79bcfcb374f6f04350093a7a7fc40c414520", checked := Tryz.checked }
namespace Rows
def none {H : Type} : Left H := { results := [], args := [] }

/- WHAT THE LISTED PACKAGE-LEVEL VARIABLES READ AS WHEN THE CALL BEGINS. Each datum BY PROGRAM (the guide's laid-datum.mjs) off the statement by which the dump's own 'gosem.cut.vars' lays the variable. In a bare row this is a premise. The card (YtfhfbpmlnjdfoaaGreatDoorCards.lean) ties it to the program's text. -/
def laid_lavabo_crc_nibbles {H : Type} : DataW H := .agg [.lit (.int .i64 0), .lit (.int .i64 274646895), .lit (.int .i64 549293790), .lit (.int .i64 820201905), .lit (.int .i64 1098587580), .lit (.int .i64 1361435347), .lit (.int .i64 1640403810), .lit (.int .i64 1905808397), .lit (.int .i64 2197175160), .lit (.int .i64 2460548119), .lit (.int .i64 2722870694), .lit (.int .i64 2987750089), .lit (.int .i64 3280807620), .lit (.int .i64 3553878443), .lit (.int .i64 3811616794), .lit (.int .i64 4084100981)]
def laid_lavabo_slots_turns {H : Type} : DataW H := .agg [.lit (.int .i64 2), .lit (.int .i64 28), .lit (.int .i64 24), .lit (.int .i64 17), .lit (.int .i64 0)]

/-- 'lavabolaw19.AttachApplies': WHATEVER THE INPUT: true; the input reads as it did. -/
def attachAppliesSpec : ChangeSpec := { name := "attachApplies", fn := fun _ => fun
  | [d1, d2] => { results := [.lit (.bool true)], args := [d1, d2] }
  | _ => none }
def attachAppliesRow : OpenClaim := { program := "ytfhfbpmlnjdfoaagreatdoor", sum := "47b597f1b7dd3073029f6819a2db79bcfcb374f6f04350093a7a7fc40c414520", func := "lavabo/lavabolaw19.AttachApplies", spec := "attachApplies", unfollowed := true, recurses := true, named := ["lavabo/crc.nibbles", "lavabo/slots.turns"], apart := false, laid := [("lavabo/crc.nibbles", laid_lavabo_crc_nibbles), ("lavabo/slots.turns", laid_lavabo_slots_turns)] }
def AttachAppliesSaid : Prop := attachAppliesRow.holds Tryz.pinned (OpenSpec.ofChange attachAppliesSpec)

/-- ITS FALSE NEIGHBOUR: 'it returns false'. Refute it at one input. -/
def attachAppliesWrong : ChangeSpec := { name := "attachApplies", fn := fun _ => fun
  | [d1, d2] => { results := [.lit (.bool false)], args := [d1, d2] }
  | _ => none }
def AttachAppliesWrongFalsely : Prop := attachAppliesRow.holds Tryz.pinned (OpenSpec.ofChange attachAppliesWrong)

/-- 'lavabolaw19.AttachFormats': WHATEVER THE INPUT: true; the input reads as it did. -/
def attachFormatsSpec : ChangeSpec := { name := "attachFormats", fn := fun _ => fun
  | [d1, d2] => { results := [.lit (.bool true)], args := [d1, d2] }
  | _ => none }
def attachFormatsRow : OpenClaim := { program := "ytfhfbpmlnjdfoaagreatdoor", sum := "47b597f1b7dd3073029f6819a2db79bcfcb374f6f04350093a7a7fc40c414520", func := "lavabo/lavabolaw19.AttachFormats", spec := "attachFormats", unfollowed := true, recurses := true, named := ["lavabo/crc.nibbles", "lavabo/slots.turns"], apart := false, laid := [("lavabo/crc.nibbles", laid_lavabo_crc_nibbles), ("lavabo/slots.turns", laid_lavabo_slots_turns)] }
def AttachFormatsSaid : Prop := attachFormatsRow.holds Tryz.pinned (OpenSpec.ofChange attachFormatsSpec)

/-- ITS FALSE NEIGHBOUR: 'it returns false'. Refute it at one input. -/
def attachFormatsWrong : ChangeSpec := { name := "attachFormats", fn := fun _ => fun
  | [d1, d2] => { results := [.lit (.bool false)], args := [d1, d2] }
  | _ => none }
def AttachFormatsWrongFalsely : Prop := attachFormatsRow.holds Tryz.pinned (OpenSpec.ofChange attachFormatsWrong)

/-- 'lavabolaw14.CacheWipes': WHATEVER THE INPUT: true; the input reads as it did. -/
def cacheWipesSpec : ChangeSpec := { name := "cacheWipes", fn := fun _ => fun
  | [d1, d2] => { results := [.lit (.bool true)], args := [d1, d2] }
  | _ => none }
def cacheWipesRow : OpenClaim := { program := "ytfhfbpmlnjdfoaagreatdoor", sum := "47b597f1b7dd3073029f6819a2db79bcfcb374f6f04350093a7a7fc40c414520", func := "lavabo/lavabolaw14.CacheWipes", spec := "cacheWipes", inPlace := ["maps.clone"], unfollowed := true, recurses := true, named := ["lavabo/slots.turns", "lavabo/crc.nibbles"], apart := false, laid := [("lavabo/crc.nibbles", laid_lavabo_crc_nibbles), ("lavabo/slots.turns", laid_lavabo_slots_turns)] }
def CacheWipesSaid : Prop := cacheWipesRow.holds Tryz.pinned (OpenSpec.ofChange cacheWipesSpec)

/-- ITS FALSE NEIGHBOUR: 'it returns false'. Refute it at one input. -/
def cacheWipesWrong : ChangeSpec := { name := "cacheWipes", fn := fun _ => fun
  | [d1, d2] => { results := [.lit (.bool false)], args := [d1, d2] }
  | _ => none }
def CacheWipesWrongFalsely : Prop := cacheWipesRow.holds Tryz.pinned (OpenSpec.ofChange cacheWipesWrong)

/-- 'lavabolaw19.AttachRecords': WHATEVER THE INPUT: true; the input reads as it did. -/
def attachRecordsSpec : ChangeSpec := { name := "attachRecords", fn := fun _ => fun
  | [d1, d2] => { results := [.lit (.bool true)], args := [d1, d2] }
  | _ => none }
def attachRecordsRow : OpenClaim := { program := "ytfhfbpmlnjdfoaagreatdoor", sum := "47b597f1b7dd3073029f6819a2db79bcfcb374f6f04350093a7a7fc40c414520", func := "lavabo/lavabolaw19.AttachRecords", spec := "attachRecords", inPlace := ["maps.clone"], unfollowed := true, recurses := true, named := ["lavabo/crc.nibbles", "lavabo/slots.turns"], apart := false, laid := [("lavabo/crc.nibbles", laid_lavabo_crc_nibbles), ("lavabo/slots.turns", laid_lavabo_slots_turns)] }
def AttachRecordsSaid : Prop := attachRecordsRow.holds Tryz.pinned (OpenSpec.ofChange attachRecordsSpec)

/-- ITS FALSE NEIGHBOUR: 'it returns false'. Refute it at one input. -/
def attachRecordsWrong : ChangeSpec := { name := "attachRecords", fn := fun _ => fun
  | [d1, d2] => { results := [.lit (.bool false)], args := [d1, d2] }
  | _ => none }
def AttachRecordsWrongFalsely : Prop := attachRecordsRow.holds Tryz.pinned (OpenSpec.ofChange attachRecordsWrong)

/-- 'lavabolaw19.AttachStops': WHATEVER THE INPUT: true; the input reads as it did. -/
def attachStopsSpec : ChangeSpec := { name := "attachStops", fn := fun _ => fun
  | [d1, d2, d3] => { results := [.lit (.bool true)], args := [d1, d2, d3] }
  | _ => none }
def attachStopsRow : OpenClaim := { program := "ytfhfbpmlnjdfoaagreatdoor", sum := "47b597f1b7dd3073029f6819a2db79bcfcb374f6f04350093a7a7fc40c414520", func := "lavabo/lavabolaw19.AttachStops", spec := "attachStops", inPlace := ["maps.clone"], unfollowed := true, recurses := true, named := ["lavabo/crc.nibbles", "lavabo/slots.turns"], apart := false, laid := [("lavabo/crc.nibbles", laid_lavabo_crc_nibbles), ("lavabo/slots.turns", laid_lavabo_slots_turns)] }
def AttachStopsSaid : Prop := attachStopsRow.holds Tryz.pinned (OpenSpec.ofChange attachStopsSpec)

/-- ITS FALSE NEIGHBOUR: 'it returns false'. Refute it at one input. -/
def attachStopsWrong : ChangeSpec := { name := "attachStops", fn := fun _ => fun
  | [d1, d2, d3] => { results := [.lit (.bool false)], args := [d1, d2, d3] }
  | _ => none }
def AttachStopsWrongFalsely : Prop := attachStopsRow.holds Tryz.pinned (OpenSpec.ofChange attachStopsWrong)

/-- 'lavabolaw19.AttachRefuses': WHATEVER THE INPUT: true; the input reads as it did. -/
def attachRefusesSpec : ChangeSpec := { name := "attachRefuses", fn := fun _ => fun
  | [d1, d2, d3] => { results := [.lit (.bool true)], args := [d1, d2, d3] }
  | _ => none }
def attachRefusesRow : OpenClaim := { program := "ytfhfbpmlnjdfoaagreatdoor", sum := "47b597f1b7dd3073029f6819a2db79bcfcb374f6f04350093a7a7fc40c414520", func := "lavabo/lavabolaw19.AttachRefuses", spec := "attachRefuses", inPlace := ["maps.clone"], unfollowed := true, recurses := true, named := ["lavabo/crc.nibbles", "lavabo/slots.turns"], apart := false, laid := [("lavabo/crc.nibbles", laid_lavabo_crc_nibbles), ("lavabo/slots.turns", laid_lavabo_slots_turns)] }
def AttachRefusesSaid : Prop := attachRefusesRow.holds Tryz.pinned (OpenSpec.ofChange attachRefusesSpec)

/-- ITS FALSE NEIGHBOUR: 'it returns false'. Refute it at one input. -/
def attachRefusesWrong : ChangeSpec := { name := "attachRefuses", fn := fun _ => fun
  | [d1, d2, d3] => { results := [.lit (.bool false)], args := [d1, d2, d3] }
  | _ => none }
def AttachRefusesWrongFalsely : Prop := attachRefusesRow.holds Tryz.pinned (OpenSpec.ofChange attachRefusesWrong)

/-- 'lavabolaw19.AttachTwice': WHATEVER THE INPUT: true; the input reads as it did. -/
def attachTwiceSpec : ChangeSpec := { name := "attachTwice", fn := fun _ => fun
  | [d1, d2] => { results := [.lit (.bool true)], args := [d1, d2] }
  | _ => none }
def attachTwiceRow : OpenClaim := { program := "ytfhfbpmlnjdfoaagreatdoor", sum := "47b597f1b7dd3073029f6819a2db79bcfcb374f6f04350093a7a7fc40c414520", func := "lavabo/lavabolaw19.AttachTwice", spec := "attachTwice", inPlace := ["maps.clone"], unfollowed := true, recurses := true, named := ["lavabo/crc.nibbles", "lavabo/slots.turns"], apart := false, laid := [("lavabo/crc.nibbles", laid_lavabo_crc_nibbles), ("lavabo/slots.turns", laid_lavabo_slots_turns)] }
def AttachTwiceSaid : Prop := attachTwiceRow.holds Tryz.pinned (OpenSpec.ofChange attachTwiceSpec)

/-- ITS FALSE NEIGHBOUR: 'it returns false'. Refute it at one input. -/
def attachTwiceWrong : ChangeSpec := { name := "attachTwice", fn := fun _ => fun
  | [d1, d2] => { results := [.lit (.bool false)], args := [d1, d2] }
  | _ => none }
def AttachTwiceWrongFalsely : Prop := attachTwiceRow.holds Tryz.pinned (OpenSpec.ofChange attachTwiceWrong)

/- THE SECOND FORM. 'bulk': how many values and letters a reading holds, each counted each time it is reached (what is shared counts as often as it is met; a slice's spare places count too). A statement '..UptoSaid' is the law's where the arguments, and the package variables that the reading takes, are together of bulk at most 1048576: NARROWER than '..Said'. Prove '..Said' where nothing that the law and all that it calls make is longer than what came in: it says more and counts as full. Else prove '..UptoSaid'. A law counts once. -/
mutual
def uptoBulk {H : Type} : DataW H → Nat
  | .lit (.string bytes) => bytes.length + 1
  | .lit _ => 1
  | .nil => 1
  | .ptr d => uptoBulk d + 1
  | .slice elems spare => uptoBulkAll elems + uptoBulkAll spare + 1
  | .agg parts => uptoBulkAll parts + 1
  | .iface _ d => uptoBulk d + 1
  | .map entries => uptoBulkEntries entries + 1
  | .held _ => 1
def uptoBulkAll {H : Type} : List (DataW H) → Nat
  | [] => 0
  | d :: r => uptoBulk d + uptoBulkAll r
def uptoBulkEntries {H : Type} : List (Lit × DataW H) → Nat
  | [] => 0
  | x :: r => uptoBulkEntry x + uptoBulkEntries r
def uptoBulkEntry {H : Type} : Lit × DataW H → Nat
  | (.string bytes, d) => bytes.length + uptoBulk d + 1
  | (_, d) => uptoBulk d + 1
 end
def uptoSmall : (H : Type) → List (DataW H) → Bool := fun _ ds => decide (uptoBulkAll ds ≤ 1048576)
def OpenSpec.upto (s : _root_.Go.ChangeSpec) : _root_.Go.OpenSpec := { _root_.Go.OpenSpec.ofChange s with cond := some uptoSmall }

/-- 'lavabolaw19.AttachApplies', WHERE WHAT IT READS IS OF BULK AT MOST 1048576: true; the input reads as it did. -/
def attachAppliesUptoRow : OpenClaim := { program := "ytfhfbpmlnjdfoaagreatdoor", sum := "47b597f1b7dd3073029f6819a2db79bcfcb374f6f04350093a7a7fc40c414520", func := "lavabo/lavabolaw19.AttachApplies", spec := "attachApplies", unfollowed := true, recurses := true, named := ["lavabo/crc.nibbles", "lavabo/slots.turns"], apart := false, laid := [("lavabo/crc.nibbles", laid_lavabo_crc_nibbles), ("lavabo/slots.turns", laid_lavabo_slots_turns)], narrowed := true }
def AttachAppliesUptoSaid : Prop := attachAppliesUptoRow.holds Tryz.pinned (OpenSpec.upto attachAppliesSpec)

/-- 'lavabolaw19.AttachFormats', WHERE WHAT IT READS IS OF BULK AT MOST 1048576: true; the input reads as it did. -/
def attachFormatsUptoRow : OpenClaim := { program := "ytfhfbpmlnjdfoaagreatdoor", sum := "47b597f1b7dd3073029f6819a2db79bcfcb374f6f04350093a7a7fc40c414520", func := "lavabo/lavabolaw19.AttachFormats", spec := "attachFormats", unfollowed := true, recurses := true, named := ["lavabo/crc.nibbles", "lavabo/slots.turns"], apart := false, laid := [("lavabo/crc.nibbles", laid_lavabo_crc_nibbles), ("lavabo/slots.turns", laid_lavabo_slots_turns)], narrowed := true }
def AttachFormatsUptoSaid : Prop := attachFormatsUptoRow.holds Tryz.pinned (OpenSpec.upto attachFormatsSpec)

/-- 'lavabolaw14.CacheWipes', WHERE WHAT IT READS IS OF BULK AT MOST 1048576: true; the input reads as it did. -/
def cacheWipesUptoRow : OpenClaim := { program := "ytfhfbpmlnjdfoaagreatdoor", sum := "47b597f1b7dd3073029f6819a2db79bcfcb374f6f04350093a7a7fc40c414520", func := "lavabo/lavabolaw14.CacheWipes", spec := "cacheWipes", inPlace := ["maps.clone"], unfollowed := true, recurses := true, named := ["lavabo/slots.turns", "lavabo/crc.nibbles"], apart := false, laid := [("lavabo/crc.nibbles", laid_lavabo_crc_nibbles), ("lavabo/slots.turns", laid_lavabo_slots_turns)], narrowed := true }
def CacheWipesUptoSaid : Prop := cacheWipesUptoRow.holds Tryz.pinned (OpenSpec.upto cacheWipesSpec)

/-- 'lavabolaw19.AttachRecords', WHERE WHAT IT READS IS OF BULK AT MOST 1048576: true; the input reads as it did. -/
def attachRecordsUptoRow : OpenClaim := { program := "ytfhfbpmlnjdfoaagreatdoor", sum := "47b597f1b7dd3073029f6819a2db79bcfcb374f6f04350093a7a7fc40c414520", func := "lavabo/lavabolaw19.AttachRecords", spec := "attachRecords", inPlace := ["maps.clone"], unfollowed := true, recurses := true, named := ["lavabo/crc.nibbles", "lavabo/slots.turns"], apart := false, laid := [("lavabo/crc.nibbles", laid_lavabo_crc_nibbles), ("lavabo/slots.turns", laid_lavabo_slots_turns)], narrowed := true }
def AttachRecordsUptoSaid : Prop := attachRecordsUptoRow.holds Tryz.pinned (OpenSpec.upto attachRecordsSpec)

/-- 'lavabolaw19.AttachStops', WHERE WHAT IT READS IS OF BULK AT MOST 1048576: true; the input reads as it did. -/
def attachStopsUptoRow : OpenClaim := { program := "ytfhfbpmlnjdfoaagreatdoor", sum := "47b597f1b7dd3073029f6819a2db79bcfcb374f6f04350093a7a7fc40c414520", func := "lavabo/lavabolaw19.AttachStops", spec := "attachStops", inPlace := ["maps.clone"], unfollowed := true, recurses := true, named := ["lavabo/crc.nibbles", "lavabo/slots.turns"], apart := false, laid := [("lavabo/crc.nibbles", laid_lavabo_crc_nibbles), ("lavabo/slots.turns", laid_lavabo_slots_turns)], narrowed := true }
def AttachStopsUptoSaid : Prop := attachStopsUptoRow.holds Tryz.pinned (OpenSpec.upto attachStopsSpec)

/-- 'lavabolaw19.AttachRefuses', WHERE WHAT IT READS IS OF BULK AT MOST 1048576: true; the input reads as it did. -/
def attachRefusesUptoRow : OpenClaim := { program := "ytfhfbpmlnjdfoaagreatdoor", sum := "47b597f1b7dd3073029f6819a2db79bcfcb374f6f04350093a7a7fc40c414520", func := "lavabo/lavabolaw19.AttachRefuses", spec := "attachRefuses", inPlace := ["maps.clone"], unfollowed := true, recurses := true, named := ["lavabo/crc.nibbles", "lavabo/slots.turns"], apart := false, laid := [("lavabo/crc.nibbles", laid_lavabo_crc_nibbles), ("lavabo/slots.turns", laid_lavabo_slots_turns)], narrowed := true }
def AttachRefusesUptoSaid : Prop := attachRefusesUptoRow.holds Tryz.pinned (OpenSpec.upto attachRefusesSpec)

/-- 'lavabolaw19.AttachTwice', WHERE WHAT IT READS IS OF BULK AT MOST 1048576: true; the input reads as it did. -/
def attachTwiceUptoRow : OpenClaim := { program := "ytfhfbpmlnjdfoaagreatdoor", sum := "47b597f1b7dd3073029f6819a2db79bcfcb374f6f04350093a7a7fc40c414520", func := "lavabo/lavabolaw19.AttachTwice", spec := "attachTwice", inPlace := ["maps.clone"], unfollowed := true, recurses := true, named := ["lavabo/crc.nibbles", "lavabo/slots.turns"], apart := false, laid := [("lavabo/crc.nibbles", laid_lavabo_crc_nibbles), ("lavabo/slots.turns", laid_lavabo_slots_turns)], narrowed := true }
def AttachTwiceUptoSaid : Prop := attachTwiceUptoRow.holds Tryz.pinned (OpenSpec.upto attachTwiceSpec)

end Rows
end Go.Proofs.YtfhfbpmlnjdfoaaGreatDoor
