/-
  DERIVED. GIVEN WITH THE SEED: THE CARDS: each row of YtolhlfahoooliaaDoorRows.lean that lists a variable, with what it lists TIED to the program's text (the seventh form; the later family's looks); each row that meets fmt, with fmt's text TOLD by the authors' own Lean function (tested against real Go, not proved from fmt's source: count such statements apart). THE CARD IS WHAT COUNTS. Prove the row's statement (the work); the ties are given (YtolhlfahoooliaaDoorTie.lean); close each card by the builder's one call (the guide's Derived/Test/ToyasCard.lean, 'card_holds'). Laid BY PROGRAM, IN A SANDBOX (cutbox-door.mjs). By AI agents, Wed Nov 11 2026. No macro, syntax, notation, axiom, sorry.
-/
import Derived.Test.YtolhlfahoooliaaDoorRows
import GoSem.ClaimSeven
namespace Go.Proofs.YtolhlfahoooliaaDoor
namespace Rows

/-- THE TIED CARD OF 'lavabolaw08.SlotsMay'. -/
def slotsMayCard : Claim7 := { stood := { row := slotsMayRow, standIns := [], harness := (true, "df50208dfbdeaf377bd96a19e361cbab6d944ebef74d8693e1ae0ef4554110b8"), looks := false }, kinds := [], alts := [], laidByText := true, laidKinds := [.data], laidTests := true, laidLooks := .later }
def SlotsMayCardSaid : Prop := Claim7.holds Tryd.pinned (.plain (OpenSpec.ofChange slotsMaySpec)) slotsMayCard

/-- THE TIED CARD OF 'lavabolaw08.SlotsTakes'. -/
def slotsTakesCard : Claim7 := { stood := { row := slotsTakesRow, standIns := [], harness := (true, "df50208dfbdeaf377bd96a19e361cbab6d944ebef74d8693e1ae0ef4554110b8"), looks := false }, kinds := [], alts := [], laidByText := true, laidKinds := [.data], laidTests := true, laidLooks := .later }
def SlotsTakesCardSaid : Prop := Claim7.holds Tryd.pinned (.plain (OpenSpec.ofChange slotsTakesSpec)) slotsTakesCard

/-- THE TIED CARD OF 'lavabolaw08.SlotsRound'. -/
def slotsRoundCard : Claim7 := { stood := { row := slotsRoundRow, standIns := [], harness := (true, "df50208dfbdeaf377bd96a19e361cbab6d944ebef74d8693e1ae0ef4554110b8"), looks := false }, kinds := [], alts := [], laidByText := true, laidKinds := [.data], laidTests := true, laidLooks := .later }
def SlotsRoundCardSaid : Prop := Claim7.holds Tryd.pinned (.plain (OpenSpec.ofChange slotsRoundSpec)) slotsRoundCard

/-- THE TIED CARD OF 'lavabolaw08.SlotsPlays'. -/
def slotsPlaysCard : Claim7 := { stood := { row := slotsPlaysRow, standIns := [], harness := (true, "df50208dfbdeaf377bd96a19e361cbab6d944ebef74d8693e1ae0ef4554110b8"), looks := false }, kinds := [], alts := [], laidByText := true, laidKinds := [.data], laidTests := true, laidLooks := .later }
def SlotsPlaysCardSaid : Prop := Claim7.holds Tryd.pinned (.plain (OpenSpec.ofChange slotsPlaysSpec)) slotsPlaysCard

/-- THE TIED CARD OF 'lavabolaw08.SlotsWhole'. -/
def slotsWholeCard : Claim7 := { stood := { row := slotsWholeRow, standIns := [], harness := (true, "df50208dfbdeaf377bd96a19e361cbab6d944ebef74d8693e1ae0ef4554110b8"), looks := false }, kinds := [], alts := [], laidByText := true, laidKinds := [.data], laidTests := true, laidLooks := .later }
def SlotsWholeCardSaid : Prop := Claim7.holds Tryd.pinned (.plain (OpenSpec.ofChange slotsWholeSpec)) slotsWholeCard

/-- THE TIED CARD OF 'lavabolaw08.SlotsNil'. -/
def slotsNilCard : Claim7 := { stood := { row := slotsNilRow, standIns := [], harness := (true, "df50208dfbdeaf377bd96a19e361cbab6d944ebef74d8693e1ae0ef4554110b8"), looks := false }, kinds := [], alts := [], laidByText := true, laidKinds := [.data], laidTests := true, laidLooks := .later }
def SlotsNilCardSaid : Prop := Claim7.holds Tryd.pinned (.plain (OpenSpec.ofChange slotsNilSpec)) slotsNilCard

/-- THE SECOND FORM's CARD OF 'lavabolaw08.SlotsMay'. -/
def slotsMayUptoCard : Claim7 := { stood := { row := slotsMayUptoRow, standIns := [], harness := (true, "df50208dfbdeaf377bd96a19e361cbab6d944ebef74d8693e1ae0ef4554110b8"), looks := false }, kinds := [], alts := [], laidByText := true, laidKinds := [.data], laidTests := true, laidLooks := .later }
def SlotsMayUptoCardSaid : Prop := Claim7.holds Tryd.pinned (.plain (OpenSpec.upto slotsMaySpec)) slotsMayUptoCard

/-- THE SECOND FORM's CARD OF 'lavabolaw08.SlotsTakes'. -/
def slotsTakesUptoCard : Claim7 := { stood := { row := slotsTakesUptoRow, standIns := [], harness := (true, "df50208dfbdeaf377bd96a19e361cbab6d944ebef74d8693e1ae0ef4554110b8"), looks := false }, kinds := [], alts := [], laidByText := true, laidKinds := [.data], laidTests := true, laidLooks := .later }
def SlotsTakesUptoCardSaid : Prop := Claim7.holds Tryd.pinned (.plain (OpenSpec.upto slotsTakesSpec)) slotsTakesUptoCard

/-- THE SECOND FORM's CARD OF 'lavabolaw08.SlotsRound'. -/
def slotsRoundUptoCard : Claim7 := { stood := { row := slotsRoundUptoRow, standIns := [], harness := (true, "df50208dfbdeaf377bd96a19e361cbab6d944ebef74d8693e1ae0ef4554110b8"), looks := false }, kinds := [], alts := [], laidByText := true, laidKinds := [.data], laidTests := true, laidLooks := .later }
def SlotsRoundUptoCardSaid : Prop := Claim7.holds Tryd.pinned (.plain (OpenSpec.upto slotsRoundSpec)) slotsRoundUptoCard

/-- THE SECOND FORM's CARD OF 'lavabolaw08.SlotsPlays'. -/
def slotsPlaysUptoCard : Claim7 := { stood := { row := slotsPlaysUptoRow, standIns := [], harness := (true, "df50208dfbdeaf377bd96a19e361cbab6d944ebef74d8693e1ae0ef4554110b8"), looks := false }, kinds := [], alts := [], laidByText := true, laidKinds := [.data], laidTests := true, laidLooks := .later }
def SlotsPlaysUptoCardSaid : Prop := Claim7.holds Tryd.pinned (.plain (OpenSpec.upto slotsPlaysSpec)) slotsPlaysUptoCard

/-- THE SECOND FORM's CARD OF 'lavabolaw08.SlotsWhole'. -/
def slotsWholeUptoCard : Claim7 := { stood := { row := slotsWholeUptoRow, standIns := [], harness := (true, "df50208dfbdeaf377bd96a19e361cbab6d944ebef74d8693e1ae0ef4554110b8"), looks := false }, kinds := [], alts := [], laidByText := true, laidKinds := [.data], laidTests := true, laidLooks := .later }
def SlotsWholeUptoCardSaid : Prop := Claim7.holds Tryd.pinned (.plain (OpenSpec.upto slotsWholeSpec)) slotsWholeUptoCard

/-- THE SECOND FORM's CARD OF 'lavabolaw08.SlotsNil'. -/
def slotsNilUptoCard : Claim7 := { stood := { row := slotsNilUptoRow, standIns := [], harness := (true, "df50208dfbdeaf377bd96a19e361cbab6d944ebef74d8693e1ae0ef4554110b8"), looks := false }, kinds := [], alts := [], laidByText := true, laidKinds := [.data], laidTests := true, laidLooks := .later }
def SlotsNilUptoCardSaid : Prop := Claim7.holds Tryd.pinned (.plain (OpenSpec.upto slotsNilSpec)) slotsNilUptoCard
end Rows
end Go.Proofs.YtolhlfahoooliaaDoor
