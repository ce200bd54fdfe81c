/-
  DERIVED. GIVEN WITH THE SEED: THE CARDS: each row of YtdpoiaejhkfocaaGreatDoorRows.lean that lists a variable, with what it lists TIED to the program's text (the seventh form; the later family's looks); each row that meets fmt, with fmt's text TOLD by the authors' own Lean function (tested against real Go, not proved from fmt's source: count such statements apart). THE CARD IS WHAT COUNTS. Prove the row's statement (the work); the ties are given (YtdpoiaejhkfocaaGreatDoorTie.lean); close each card by the builder's one call (the guide's Derived/Test/ToyasCard.lean, 'card_holds'). Laid BY PROGRAM, IN A SANDBOX (cutbox-door.mjs). By AI agents, Wed Nov 11 2026. No macro, syntax, notation, axiom, sorry.
-/
import Derived.Test.YtdpoiaejhkfocaaGreatDoorRows
import GoSem.ClaimSeven
namespace Go.Proofs.YtdpoiaejhkfocaaGreatDoor
namespace Rows

/-- THE TIED CARD OF 'lavabolaw17.LogsWrong'. -/
def logsWrongCard : Claim7 := { stood := { row := logsWrongRow, standIns := [], harness := (true, "c0d99f4978707825fb42aecfde934a95384af418e5493e4c3b117cf58daabbfb"), looks := false }, kinds := [], alts := [], laidByText := true, laidKinds := [.data, .data], laidTests := true, laidLooks := .later }
def LogsWrongCardSaid : Prop := Claim7.holds Tryz.pinned (.plain (OpenSpec.ofChange logsWrongSpec)) logsWrongCard

/-- THE TIED CARD OF 'lavabolaw17.LogsErrs'. -/
def logsErrsCard : Claim7 := { stood := { row := logsErrsRow, standIns := [], harness := (true, "c0d99f4978707825fb42aecfde934a95384af418e5493e4c3b117cf58daabbfb"), looks := false }, kinds := [], alts := [], laidByText := true, laidKinds := [.data, .data], laidTests := true, laidLooks := .later }
def LogsErrsCardSaid : Prop := Claim7.holds Tryz.pinned (.plain (OpenSpec.ofChange logsErrsSpec)) logsErrsCard

/-- THE TIED CARD OF 'lavabolaw17.LogsApart'. -/
def logsApartCard : Claim7 := { stood := { row := logsApartRow, standIns := [], harness := (true, "c0d99f4978707825fb42aecfde934a95384af418e5493e4c3b117cf58daabbfb"), looks := false }, kinds := [], alts := [], laidByText := true, laidKinds := [.data, .data], laidTests := true, laidLooks := .later }
def LogsApartCardSaid : Prop := Claim7.holds Tryz.pinned (.plain (OpenSpec.ofChange logsApartSpec)) logsApartCard

/-- THE TIED CARD OF 'lavabolaw17.LogsLasts'. -/
def logsLastsCard : Claim7 := { stood := { row := logsLastsRow, standIns := [], harness := (true, "c0d99f4978707825fb42aecfde934a95384af418e5493e4c3b117cf58daabbfb"), looks := false }, kinds := [], alts := [], laidByText := true, laidKinds := [.data, .data], laidTests := true, laidLooks := .later }
def LogsLastsCardSaid : Prop := Claim7.holds Tryz.pinned (.plain (OpenSpec.ofChange logsLastsSpec)) logsLastsCard

/-- THE TIED CARD OF 'lavabolaw17.LogsWaits'. -/
def logsWaitsCard : Claim7 := { stood := { row := logsWaitsRow, standIns := [], harness := (true, "c0d99f4978707825fb42aecfde934a95384af418e5493e4c3b117cf58daabbfb"), looks := false }, kinds := [], alts := [], laidByText := true, laidKinds := [.data, .data], laidTests := true, laidLooks := .later }
def LogsWaitsCardSaid : Prop := Claim7.holds Tryz.pinned (.plain (OpenSpec.ofChange logsWaitsSpec)) logsWaitsCard

/-- THE SECOND FORM's CARD OF 'lavabolaw17.LogsWrong'. -/
def logsWrongUptoCard : Claim7 := { stood := { row := logsWrongUptoRow, standIns := [], harness := (true, "c0d99f4978707825fb42aecfde934a95384af418e5493e4c3b117cf58daabbfb"), looks := false }, kinds := [], alts := [], laidByText := true, laidKinds := [.data, .data], laidTests := true, laidLooks := .later }
def LogsWrongUptoCardSaid : Prop := Claim7.holds Tryz.pinned (.plain (OpenSpec.upto logsWrongSpec)) logsWrongUptoCard

/-- THE SECOND FORM's CARD OF 'lavabolaw17.LogsErrs'. -/
def logsErrsUptoCard : Claim7 := { stood := { row := logsErrsUptoRow, standIns := [], harness := (true, "c0d99f4978707825fb42aecfde934a95384af418e5493e4c3b117cf58daabbfb"), looks := false }, kinds := [], alts := [], laidByText := true, laidKinds := [.data, .data], laidTests := true, laidLooks := .later }
def LogsErrsUptoCardSaid : Prop := Claim7.holds Tryz.pinned (.plain (OpenSpec.upto logsErrsSpec)) logsErrsUptoCard

/-- THE SECOND FORM's CARD OF 'lavabolaw17.LogsApart'. -/
def logsApartUptoCard : Claim7 := { stood := { row := logsApartUptoRow, standIns := [], harness := (true, "c0d99f4978707825fb42aecfde934a95384af418e5493e4c3b117cf58daabbfb"), looks := false }, kinds := [], alts := [], laidByText := true, laidKinds := [.data, .data], laidTests := true, laidLooks := .later }
def LogsApartUptoCardSaid : Prop := Claim7.holds Tryz.pinned (.plain (OpenSpec.upto logsApartSpec)) logsApartUptoCard

/-- THE SECOND FORM's CARD OF 'lavabolaw17.LogsLasts'. -/
def logsLastsUptoCard : Claim7 := { stood := { row := logsLastsUptoRow, standIns := [], harness := (true, "c0d99f4978707825fb42aecfde934a95384af418e5493e4c3b117cf58daabbfb"), looks := false }, kinds := [], alts := [], laidByText := true, laidKinds := [.data, .data], laidTests := true, laidLooks := .later }
def LogsLastsUptoCardSaid : Prop := Claim7.holds Tryz.pinned (.plain (OpenSpec.upto logsLastsSpec)) logsLastsUptoCard

/-- THE SECOND FORM's CARD OF 'lavabolaw17.LogsWaits'. -/
def logsWaitsUptoCard : Claim7 := { stood := { row := logsWaitsUptoRow, standIns := [], harness := (true, "c0d99f4978707825fb42aecfde934a95384af418e5493e4c3b117cf58daabbfb"), looks := false }, kinds := [], alts := [], laidByText := true, laidKinds := [.data, .data], laidTests := true, laidLooks := .later }
def LogsWaitsUptoCardSaid : Prop := Claim7.holds Tryz.pinned (.plain (OpenSpec.upto logsWaitsSpec)) logsWaitsUptoCard
end Rows
end Go.Proofs.YtdpoiaejhkfocaaGreatDoor
