/-
  DERIVED. GIVEN WITH THE SEED: THE CARDS: each row of YtfhfbpmlnjdfoaaGreatDoorRows.lean that lists a variable, with what it lists TIED to the program's text (the seventh form; the later family's looks); each row that meets fmt, with fmt's text TOLD by the authors' own Lean function (tested against real Go, not proved from fmt's source: count such statements apart). THE CARD IS WHAT COUNTS. Prove the row's statement (the work); the ties are given (YtfhfbpmlnjdfoaaGreatDoorTie.lean); close each card by the builder's one call (the guide's Derived/Test/ToyasCard.lean, 'card_holds'). Laid BY PROGRAM, IN A SANDBOX (cutbox-door.mjs). By AI agents, Wed Nov 11 2026. No macro, syntax, notation, axiom, sorry.
-/
import Derived.Test.YtfhfbpmlnjdfoaaGreatDoorRows
import GoSem.ClaimSeven
namespace Go.Proofs.YtfhfbpmlnjdfoaaGreatDoor
namespace Rows

/-- THE TIED CARD OF 'lavabolaw19.AttachApplies'. -/
def attachAppliesCard : Claim7 := { stood := { row := attachAppliesRow, standIns := [], harness := (true, "282672a507a35310e1d8015dfb390c1fb029d89ea0b1cfbfadd74b7bc724695a"), looks := true }, kinds := [], alts := [], laidByText := true, laidKinds := [.data, .data], laidTests := true, laidLooks := .later }
def AttachAppliesCardSaid : Prop := Claim7.holds Tryz.pinned (.plain (OpenSpec.ofChange attachAppliesSpec)) attachAppliesCard

/-- THE TIED CARD OF 'lavabolaw19.AttachFormats'. -/
def attachFormatsCard : Claim7 := { stood := { row := attachFormatsRow, standIns := [], harness := (true, "282672a507a35310e1d8015dfb390c1fb029d89ea0b1cfbfadd74b7bc724695a"), looks := true }, kinds := [], alts := [], laidByText := true, laidKinds := [.data, .data], laidTests := true, laidLooks := .later }
def AttachFormatsCardSaid : Prop := Claim7.holds Tryz.pinned (.plain (OpenSpec.ofChange attachFormatsSpec)) attachFormatsCard

/-- THE TIED CARD OF 'lavabolaw14.CacheWipes'. -/
def cacheWipesCard : Claim7 := { stood := { row := cacheWipesRow, standIns := [], harness := (true, "282672a507a35310e1d8015dfb390c1fb029d89ea0b1cfbfadd74b7bc724695a"), looks := true }, kinds := [], alts := [], laidByText := true, laidKinds := [.data, .data], laidTests := true, laidLooks := .later }
def CacheWipesCardSaid : Prop := Claim7.holds Tryz.pinned (.plain (OpenSpec.ofChange cacheWipesSpec)) cacheWipesCard

/-- THE TIED CARD OF 'lavabolaw19.AttachRecords'. -/
def attachRecordsCard : Claim7 := { stood := { row := attachRecordsRow, standIns := [], harness := (true, "282672a507a35310e1d8015dfb390c1fb029d89ea0b1cfbfadd74b7bc724695a"), looks := true }, kinds := [], alts := [], laidByText := true, laidKinds := [.data, .data], laidTests := true, laidLooks := .later }
def AttachRecordsCardSaid : Prop := Claim7.holds Tryz.pinned (.plain (OpenSpec.ofChange attachRecordsSpec)) attachRecordsCard

/-- THE TIED CARD OF 'lavabolaw19.AttachStops'. -/
def attachStopsCard : Claim7 := { stood := { row := attachStopsRow, standIns := [], harness := (true, "282672a507a35310e1d8015dfb390c1fb029d89ea0b1cfbfadd74b7bc724695a"), looks := true }, kinds := [], alts := [], laidByText := true, laidKinds := [.data, .data], laidTests := true, laidLooks := .later }
def AttachStopsCardSaid : Prop := Claim7.holds Tryz.pinned (.plain (OpenSpec.ofChange attachStopsSpec)) attachStopsCard

/-- THE TIED CARD OF 'lavabolaw19.AttachRefuses'. -/
def attachRefusesCard : Claim7 := { stood := { row := attachRefusesRow, standIns := [], harness := (true, "282672a507a35310e1d8015dfb390c1fb029d89ea0b1cfbfadd74b7bc724695a"), looks := true }, kinds := [], alts := [], laidByText := true, laidKinds := [.data, .data], laidTests := true, laidLooks := .later }
def AttachRefusesCardSaid : Prop := Claim7.holds Tryz.pinned (.plain (OpenSpec.ofChange attachRefusesSpec)) attachRefusesCard

/-- THE TIED CARD OF 'lavabolaw19.AttachTwice'. -/
def attachTwiceCard : Claim7 := { stood := { row := attachTwiceRow, standIns := [], harness := (true, "282672a507a35310e1d8015dfb390c1fb029d89ea0b1cfbfadd74b7bc724695a"), looks := true }, kinds := [], alts := [], laidByText := true, laidKinds := [.data, .data], laidTests := true, laidLooks := .later }
def AttachTwiceCardSaid : Prop := Claim7.holds Tryz.pinned (.plain (OpenSpec.ofChange attachTwiceSpec)) attachTwiceCard

/-- THE SECOND FORM's CARD OF 'lavabolaw19.AttachApplies'. -/
def attachAppliesUptoCard : Claim7 := { stood := { row := attachAppliesUptoRow, standIns := [], harness := (true, "282672a507a35310e1d8015dfb390c1fb029d89ea0b1cfbfadd74b7bc724695a"), looks := true }, kinds := [], alts := [], laidByText := true, laidKinds := [.data, .data], laidTests := true, laidLooks := .later }
def AttachAppliesUptoCardSaid : Prop := Claim7.holds Tryz.pinned (.plain (OpenSpec.upto attachAppliesSpec)) attachAppliesUptoCard

/-- THE SECOND FORM's CARD OF 'lavabolaw19.AttachFormats'. -/
def attachFormatsUptoCard : Claim7 := { stood := { row := attachFormatsUptoRow, standIns := [], harness := (true, "282672a507a35310e1d8015dfb390c1fb029d89ea0b1cfbfadd74b7bc724695a"), looks := true }, kinds := [], alts := [], laidByText := true, laidKinds := [.data, .data], laidTests := true, laidLooks := .later }
def AttachFormatsUptoCardSaid : Prop := Claim7.holds Tryz.pinned (.plain (OpenSpec.upto attachFormatsSpec)) attachFormatsUptoCard

/-- THE SECOND FORM's CARD OF 'lavabolaw14.CacheWipes'. -/
def cacheWipesUptoCard : Claim7 := { stood := { row := cacheWipesUptoRow, standIns := [], harness := (true, "282672a507a35310e1d8015dfb390c1fb029d89ea0b1cfbfadd74b7bc724695a"), looks := true }, kinds := [], alts := [], laidByText := true, laidKinds := [.data, .data], laidTests := true, laidLooks := .later }
def CacheWipesUptoCardSaid : Prop := Claim7.holds Tryz.pinned (.plain (OpenSpec.upto cacheWipesSpec)) cacheWipesUptoCard

/-- THE SECOND FORM's CARD OF 'lavabolaw19.AttachRecords'. -/
def attachRecordsUptoCard : Claim7 := { stood := { row := attachRecordsUptoRow, standIns := [], harness := (true, "282672a507a35310e1d8015dfb390c1fb029d89ea0b1cfbfadd74b7bc724695a"), looks := true }, kinds := [], alts := [], laidByText := true, laidKinds := [.data, .data], laidTests := true, laidLooks := .later }
def AttachRecordsUptoCardSaid : Prop := Claim7.holds Tryz.pinned (.plain (OpenSpec.upto attachRecordsSpec)) attachRecordsUptoCard

/-- THE SECOND FORM's CARD OF 'lavabolaw19.AttachStops'. -/
def attachStopsUptoCard : Claim7 := { stood := { row := attachStopsUptoRow, standIns := [], harness := (true, "282672a507a35310e1d8015dfb390c1fb029d89ea0b1cfbfadd74b7bc724695a"), looks := true }, kinds := [], alts := [], laidByText := true, laidKinds := [.data, .data], laidTests := true, laidLooks := .later }
def AttachStopsUptoCardSaid : Prop := Claim7.holds Tryz.pinned (.plain (OpenSpec.upto attachStopsSpec)) attachStopsUptoCard

/-- THE SECOND FORM's CARD OF 'lavabolaw19.AttachRefuses'. -/
def attachRefusesUptoCard : Claim7 := { stood := { row := attachRefusesUptoRow, standIns := [], harness := (true, "282672a507a35310e1d8015dfb390c1fb029d89ea0b1cfbfadd74b7bc724695a"), looks := true }, kinds := [], alts := [], laidByText := true, laidKinds := [.data, .data], laidTests := true, laidLooks := .later }
def AttachRefusesUptoCardSaid : Prop := Claim7.holds Tryz.pinned (.plain (OpenSpec.upto attachRefusesSpec)) attachRefusesUptoCard

/-- THE SECOND FORM's CARD OF 'lavabolaw19.AttachTwice'. -/
def attachTwiceUptoCard : Claim7 := { stood := { row := attachTwiceUptoRow, standIns := [], harness := (true, "282672a507a35310e1d8015dfb390c1fb029d89ea0b1cfbfadd74b7bc724695a"), looks := true }, kinds := [], alts := [], laidByText := true, laidKinds := [.data, .data], laidTests := true, laidLooks := .later }
def AttachTwiceUptoCardSaid : Prop := Claim7.holds Tryz.pinned (.plain (OpenSpec.upto attachTwiceSpec)) attachTwiceUptoCard
end Rows
end Go.Proofs.YtfhfbpmlnjdfoaaGreatDoor
