/-
  DERIVED. GIVEN WITH THE SEED: THE CARDS: each row of YtnadilfobmgebaaGreatDoorRows.lean that lists a variable, with what it lists TIED to the program's text (the seventh form; the later family's looks); each row that meets fmt, with fmt's text TOLD by the authors' own Lean function (tested against real Go, not proved from fmt's source: count such statements apart). THE CARD IS WHAT COUNTS. Prove the row's statement (the work); the ties are given (YtnadilfobmgebaaGreatDoorTie.lean); close each card by the builder's one call (the guide's Derived/Test/ToyasCard.lean, 'card_holds'). Laid BY PROGRAM, IN A SANDBOX (cutbox-door.mjs). By AI agents, Wed Nov 11 2026. No macro, syntax, notation, axiom, sorry.
-/
import Derived.Test.YtnadilfobmgebaaGreatDoorRows
import GoSem.ClaimSeven
namespace Go.Proofs.YtnadilfobmgebaaGreatDoor
namespace Rows

/-- THE TIED CARD OF 'lavabolaw17.LogsWrong'. -/
def logsWrongCard : Claim7 := { stood := { row := logsWrongRow, standIns := [], harness := (true, "32147bcbd88d8a9b488615d7c2d7d0fbb5bb05a23bf35b5ff4ff5e5d6ba57c80"), looks := true }, kinds := [], alts := [], laidByText := true, laidKinds := [.data, .data], laidTests := true, laidLooks := .later }
def LogsWrongCardSaid : Prop := Claim7.holds Tryz.pinned (.plain (OpenSpec.ofChange logsWrongSpec)) logsWrongCard

/-- THE TIED CARD OF 'lavabolaw17.LogsApart'. -/
def logsApartCard : Claim7 := { stood := { row := logsApartRow, standIns := [], harness := (true, "32147bcbd88d8a9b488615d7c2d7d0fbb5bb05a23bf35b5ff4ff5e5d6ba57c80"), looks := true }, kinds := [], alts := [], laidByText := true, laidKinds := [.data, .data], laidTests := true, laidLooks := .later }
def LogsApartCardSaid : Prop := Claim7.holds Tryz.pinned (.plain (OpenSpec.ofChange logsApartSpec)) logsApartCard

/-- THE TIED CARD OF 'lavabolaw17.LogsLasts'. -/
def logsLastsCard : Claim7 := { stood := { row := logsLastsRow, standIns := [], harness := (true, "32147bcbd88d8a9b488615d7c2d7d0fbb5bb05a23bf35b5ff4ff5e5d6ba57c80"), looks := true }, kinds := [], alts := [], laidByText := true, laidKinds := [.data, .data], laidTests := true, laidLooks := .later }
def LogsLastsCardSaid : Prop := Claim7.holds Tryz.pinned (.plain (OpenSpec.ofChange logsLastsSpec)) logsLastsCard

/-- THE TIED CARD OF 'lavabolaw17.LogsWaits'. -/
def logsWaitsCard : Claim7 := { stood := { row := logsWaitsRow, standIns := [], harness := (true, "32147bcbd88d8a9b488615d7c2d7d0fbb5bb05a23bf35b5ff4ff5e5d6ba57c80"), looks := true }, kinds := [], alts := [], laidByText := true, laidKinds := [.data, .data], laidTests := true, laidLooks := .later }
def LogsWaitsCardSaid : Prop := Claim7.holds Tryz.pinned (.plain (OpenSpec.ofChange logsWaitsSpec)) logsWaitsCard

/-- THE TIED CARD OF 'lavabolaw14.CachePlans'. -/
def cachePlansCard : Claim7 := { stood := { row := cachePlansRow, standIns := [], harness := (true, "32147bcbd88d8a9b488615d7c2d7d0fbb5bb05a23bf35b5ff4ff5e5d6ba57c80"), looks := true }, kinds := [], alts := [], laidByText := true, laidKinds := [.data, .data], laidTests := true, laidLooks := .later }
def CachePlansCardSaid : Prop := Claim7.holds Tryz.pinned (.plain (OpenSpec.ofChange cachePlansSpec)) cachePlansCard

/-- THE TIED CARD OF 'lavabolaw15.WritebackParts'. -/
def writebackPartsCard : Claim7 := { stood := { row := writebackPartsRow, standIns := [], harness := (true, "32147bcbd88d8a9b488615d7c2d7d0fbb5bb05a23bf35b5ff4ff5e5d6ba57c80"), looks := true }, kinds := [], alts := [], laidByText := true, laidKinds := [.data, .data], laidTests := true, laidLooks := .later }
def WritebackPartsCardSaid : Prop := Claim7.holds Tryz.pinned (.plain (OpenSpec.ofChange writebackPartsSpec)) writebackPartsCard

/-- THE TIED CARD OF 'lavabolaw15.WritebackLow'. -/
def writebackLowCard : Claim7 := { stood := { row := writebackLowRow, standIns := [], harness := (true, "32147bcbd88d8a9b488615d7c2d7d0fbb5bb05a23bf35b5ff4ff5e5d6ba57c80"), looks := true }, kinds := [], alts := [], laidByText := true, laidKinds := [.data, .data], laidTests := true, laidLooks := .later }
def WritebackLowCardSaid : Prop := Claim7.holds Tryz.pinned (.plain (OpenSpec.ofChange writebackLowSpec)) writebackLowCard

/-- THE TIED CARD OF 'lavabolaw15.WritebackSteps'. -/
def writebackStepsCard : Claim7 := { stood := { row := writebackStepsRow, standIns := [], harness := (true, "32147bcbd88d8a9b488615d7c2d7d0fbb5bb05a23bf35b5ff4ff5e5d6ba57c80"), looks := true }, kinds := [], alts := [], laidByText := true, laidKinds := [.data, .data], laidTests := true, laidLooks := .later }
def WritebackStepsCardSaid : Prop := Claim7.holds Tryz.pinned (.plain (OpenSpec.ofChange writebackStepsSpec)) writebackStepsCard

/-- THE TIED CARD OF 'lavabolaw15.WritebackFails'. -/
def writebackFailsCard : Claim7 := { stood := { row := writebackFailsRow, standIns := [], harness := (true, "32147bcbd88d8a9b488615d7c2d7d0fbb5bb05a23bf35b5ff4ff5e5d6ba57c80"), looks := true }, kinds := [], alts := [], laidByText := true, laidKinds := [.data, .data], laidTests := true, laidLooks := .later }
def WritebackFailsCardSaid : Prop := Claim7.holds Tryz.pinned (.plain (OpenSpec.ofChange writebackFailsSpec)) writebackFailsCard

/-- THE TIED CARD OF 'lavabolaw15.WritebackDrains'. -/
def writebackDrainsCard : Claim7 := { stood := { row := writebackDrainsRow, standIns := [], harness := (true, "32147bcbd88d8a9b488615d7c2d7d0fbb5bb05a23bf35b5ff4ff5e5d6ba57c80"), looks := true }, kinds := [], alts := [], laidByText := true, laidKinds := [.data, .data], laidTests := true, laidLooks := .later }
def WritebackDrainsCardSaid : Prop := Claim7.holds Tryz.pinned (.plain (OpenSpec.ofChange writebackDrainsSpec)) writebackDrainsCard

/-- THE SECOND FORM's CARD OF 'lavabolaw17.LogsWrong'. -/
def logsWrongUptoCard : Claim7 := { stood := { row := logsWrongUptoRow, standIns := [], harness := (true, "32147bcbd88d8a9b488615d7c2d7d0fbb5bb05a23bf35b5ff4ff5e5d6ba57c80"), looks := true }, kinds := [], alts := [], laidByText := true, laidKinds := [.data, .data], laidTests := true, laidLooks := .later }
def LogsWrongUptoCardSaid : Prop := Claim7.holds Tryz.pinned (.plain (OpenSpec.upto logsWrongSpec)) logsWrongUptoCard

/-- THE SECOND FORM's CARD OF 'lavabolaw17.LogsApart'. -/
def logsApartUptoCard : Claim7 := { stood := { row := logsApartUptoRow, standIns := [], harness := (true, "32147bcbd88d8a9b488615d7c2d7d0fbb5bb05a23bf35b5ff4ff5e5d6ba57c80"), looks := true }, kinds := [], alts := [], laidByText := true, laidKinds := [.data, .data], laidTests := true, laidLooks := .later }
def LogsApartUptoCardSaid : Prop := Claim7.holds Tryz.pinned (.plain (OpenSpec.upto logsApartSpec)) logsApartUptoCard

/-- THE SECOND FORM's CARD OF 'lavabolaw17.LogsLasts'. -/
def logsLastsUptoCard : Claim7 := { stood := { row := logsLastsUptoRow, standIns := [], harness := (true, "32147bcbd88d8a9b488615d7c2d7d0fbb5bb05a23bf35b5ff4ff5e5d6ba57c80"), looks := true }, kinds := [], alts := [], laidByText := true, laidKinds := [.data, .data], laidTests := true, laidLooks := .later }
def LogsLastsUptoCardSaid : Prop := Claim7.holds Tryz.pinned (.plain (OpenSpec.upto logsLastsSpec)) logsLastsUptoCard

/-- THE SECOND FORM's CARD OF 'lavabolaw17.LogsWaits'. -/
def logsWaitsUptoCard : Claim7 := { stood := { row := logsWaitsUptoRow, standIns := [], harness := (true, "32147bcbd88d8a9b488615d7c2d7d0fbb5bb05a23bf35b5ff4ff5e5d6ba57c80"), looks := true }, kinds := [], alts := [], laidByText := true, laidKinds := [.data, .data], laidTests := true, laidLooks := .later }
def LogsWaitsUptoCardSaid : Prop := Claim7.holds Tryz.pinned (.plain (OpenSpec.upto logsWaitsSpec)) logsWaitsUptoCard

/-- THE SECOND FORM's CARD OF 'lavabolaw14.CachePlans'. -/
def cachePlansUptoCard : Claim7 := { stood := { row := cachePlansUptoRow, standIns := [], harness := (true, "32147bcbd88d8a9b488615d7c2d7d0fbb5bb05a23bf35b5ff4ff5e5d6ba57c80"), looks := true }, kinds := [], alts := [], laidByText := true, laidKinds := [.data, .data], laidTests := true, laidLooks := .later }
def CachePlansUptoCardSaid : Prop := Claim7.holds Tryz.pinned (.plain (OpenSpec.upto cachePlansSpec)) cachePlansUptoCard

/-- THE SECOND FORM's CARD OF 'lavabolaw15.WritebackParts'. -/
def writebackPartsUptoCard : Claim7 := { stood := { row := writebackPartsUptoRow, standIns := [], harness := (true, "32147bcbd88d8a9b488615d7c2d7d0fbb5bb05a23bf35b5ff4ff5e5d6ba57c80"), looks := true }, kinds := [], alts := [], laidByText := true, laidKinds := [.data, .data], laidTests := true, laidLooks := .later }
def WritebackPartsUptoCardSaid : Prop := Claim7.holds Tryz.pinned (.plain (OpenSpec.upto writebackPartsSpec)) writebackPartsUptoCard

/-- THE SECOND FORM's CARD OF 'lavabolaw15.WritebackLow'. -/
def writebackLowUptoCard : Claim7 := { stood := { row := writebackLowUptoRow, standIns := [], harness := (true, "32147bcbd88d8a9b488615d7c2d7d0fbb5bb05a23bf35b5ff4ff5e5d6ba57c80"), looks := true }, kinds := [], alts := [], laidByText := true, laidKinds := [.data, .data], laidTests := true, laidLooks := .later }
def WritebackLowUptoCardSaid : Prop := Claim7.holds Tryz.pinned (.plain (OpenSpec.upto writebackLowSpec)) writebackLowUptoCard

/-- THE SECOND FORM's CARD OF 'lavabolaw15.WritebackSteps'. -/
def writebackStepsUptoCard : Claim7 := { stood := { row := writebackStepsUptoRow, standIns := [], harness := (true, "32147bcbd88d8a9b488615d7c2d7d0fbb5bb05a23bf35b5ff4ff5e5d6ba57c80"), looks := true }, kinds := [], alts := [], laidByText := true, laidKinds := [.data, .data], laidTests := true, laidLooks := .later }
def WritebackStepsUptoCardSaid : Prop := Claim7.holds Tryz.pinned (.plain (OpenSpec.upto writebackStepsSpec)) writebackStepsUptoCard

/-- THE SECOND FORM's CARD OF 'lavabolaw15.WritebackFails'. -/
def writebackFailsUptoCard : Claim7 := { stood := { row := writebackFailsUptoRow, standIns := [], harness := (true, "32147bcbd88d8a9b488615d7c2d7d0fbb5bb05a23bf35b5ff4ff5e5d6ba57c80"), looks := true }, kinds := [], alts := [], laidByText := true, laidKinds := [.data, .data], laidTests := true, laidLooks := .later }
def WritebackFailsUptoCardSaid : Prop := Claim7.holds Tryz.pinned (.plain (OpenSpec.upto writebackFailsSpec)) writebackFailsUptoCard

/-- THE SECOND FORM's CARD OF 'lavabolaw15.WritebackDrains'. -/
def writebackDrainsUptoCard : Claim7 := { stood := { row := writebackDrainsUptoRow, standIns := [], harness := (true, "32147bcbd88d8a9b488615d7c2d7d0fbb5bb05a23bf35b5ff4ff5e5d6ba57c80"), looks := true }, kinds := [], alts := [], laidByText := true, laidKinds := [.data, .data], laidTests := true, laidLooks := .later }
def WritebackDrainsUptoCardSaid : Prop := Claim7.holds Tryz.pinned (.plain (OpenSpec.upto writebackDrainsSpec)) writebackDrainsUptoCard
end Rows
end Go.Proofs.YtnadilfobmgebaaGreatDoor
