/-
  DERIVED. GIVEN WITH THE SEED: THE CARDS: each row of YtpejdgiccaijfaaGreatDoorRows.lean that lists a variable, with what it lists TIED to the program's text (the seventh form; the later family's looks); each row that meets fmt, with fmt's text TOLD by the authors' own Lean function (tested against real Go, not proved from fmt's source: count such statements apart). THE CARD IS WHAT COUNTS. Prove the row's statement (the work); the ties are given (YtpejdgiccaijfaaGreatDoorTie.lean); close each card by the builder's one call (the guide's Derived/Test/ToyasCard.lean, 'card_holds'). Laid BY PROGRAM, IN A SANDBOX (cutbox-door.mjs). By AI agents, Wed Nov 11 2026. No macro, syntax, notation, axiom, sorry.
-/
import Derived.Test.YtpejdgiccaijfaaGreatDoorRows
import GoSem.ClaimSeven
namespace Go.Proofs.YtpejdgiccaijfaaGreatDoor
namespace Rows

/-- THE TIED CARD OF 'lavabolaw21.ScriptTicks'. -/
def scriptTicksCard : Claim7 := { stood := { row := scriptTicksRow, standIns := [], harness := (true, "d680a94876b38306d375214cc97d85060d88285aaf259397b5cc15bc7438fc11"), looks := true }, kinds := [], alts := [], laidByText := true, laidKinds := [.data, .data], laidTests := true, laidLooks := .later }
def ScriptTicksCardSaid : Prop := Claim7.holds Tryz.pinned (.plain (OpenSpec.ofChange scriptTicksSpec)) scriptTicksCard

/-- THE TIED CARD OF 'lavabolaw21.ScriptErrs'. -/
def scriptErrsCard : Claim7 := { stood := { row := scriptErrsRow, standIns := [], harness := (true, "d680a94876b38306d375214cc97d85060d88285aaf259397b5cc15bc7438fc11"), looks := true }, kinds := [], alts := [], laidByText := true, laidKinds := [.data, .data], laidTests := true, laidLooks := .later }
def ScriptErrsCardSaid : Prop := Claim7.holds Tryz.pinned (.plain (OpenSpec.ofChange scriptErrsSpec)) scriptErrsCard

/-- THE TIED CARD OF 'lavabolaw21.ScriptModels'. -/
def scriptModelsCard : Claim7 := { stood := { row := scriptModelsRow, standIns := [], harness := (true, "d680a94876b38306d375214cc97d85060d88285aaf259397b5cc15bc7438fc11"), looks := true }, kinds := [], alts := [], laidByText := true, laidKinds := [.data, .data], laidTests := true, laidLooks := .later }
def ScriptModelsCardSaid : Prop := Claim7.holds Tryz.pinned (.plain (OpenSpec.ofChange scriptModelsSpec)) scriptModelsCard

/-- THE TIED CARD OF 'lavabolaw21.ScriptReads'. -/
def scriptReadsCard : Claim7 := { stood := { row := scriptReadsRow, standIns := [], harness := (true, "d680a94876b38306d375214cc97d85060d88285aaf259397b5cc15bc7438fc11"), looks := true }, kinds := [], alts := [], laidByText := true, laidKinds := [.data, .data], laidTests := true, laidLooks := .later }
def ScriptReadsCardSaid : Prop := Claim7.holds Tryz.pinned (.plain (OpenSpec.ofChange scriptReadsSpec)) scriptReadsCard

/-- THE TIED CARD OF 'lavabolaw21.ScriptLasts'. -/
def scriptLastsCard : Claim7 := { stood := { row := scriptLastsRow, standIns := [], harness := (true, "d680a94876b38306d375214cc97d85060d88285aaf259397b5cc15bc7438fc11"), looks := true }, kinds := [], alts := [], laidByText := true, laidKinds := [.data, .data], laidTests := true, laidLooks := .later }
def ScriptLastsCardSaid : Prop := Claim7.holds Tryz.pinned (.plain (OpenSpec.ofChange scriptLastsSpec)) scriptLastsCard

/-- THE SECOND FORM's CARD OF 'lavabolaw21.ScriptTicks'. -/
def scriptTicksUptoCard : Claim7 := { stood := { row := scriptTicksUptoRow, standIns := [], harness := (true, "d680a94876b38306d375214cc97d85060d88285aaf259397b5cc15bc7438fc11"), looks := true }, kinds := [], alts := [], laidByText := true, laidKinds := [.data, .data], laidTests := true, laidLooks := .later }
def ScriptTicksUptoCardSaid : Prop := Claim7.holds Tryz.pinned (.plain (OpenSpec.upto scriptTicksSpec)) scriptTicksUptoCard

/-- THE SECOND FORM's CARD OF 'lavabolaw21.ScriptErrs'. -/
def scriptErrsUptoCard : Claim7 := { stood := { row := scriptErrsUptoRow, standIns := [], harness := (true, "d680a94876b38306d375214cc97d85060d88285aaf259397b5cc15bc7438fc11"), looks := true }, kinds := [], alts := [], laidByText := true, laidKinds := [.data, .data], laidTests := true, laidLooks := .later }
def ScriptErrsUptoCardSaid : Prop := Claim7.holds Tryz.pinned (.plain (OpenSpec.upto scriptErrsSpec)) scriptErrsUptoCard

/-- THE SECOND FORM's CARD OF 'lavabolaw21.ScriptModels'. -/
def scriptModelsUptoCard : Claim7 := { stood := { row := scriptModelsUptoRow, standIns := [], harness := (true, "d680a94876b38306d375214cc97d85060d88285aaf259397b5cc15bc7438fc11"), looks := true }, kinds := [], alts := [], laidByText := true, laidKinds := [.data, .data], laidTests := true, laidLooks := .later }
def ScriptModelsUptoCardSaid : Prop := Claim7.holds Tryz.pinned (.plain (OpenSpec.upto scriptModelsSpec)) scriptModelsUptoCard

/-- THE SECOND FORM's CARD OF 'lavabolaw21.ScriptReads'. -/
def scriptReadsUptoCard : Claim7 := { stood := { row := scriptReadsUptoRow, standIns := [], harness := (true, "d680a94876b38306d375214cc97d85060d88285aaf259397b5cc15bc7438fc11"), looks := true }, kinds := [], alts := [], laidByText := true, laidKinds := [.data, .data], laidTests := true, laidLooks := .later }
def ScriptReadsUptoCardSaid : Prop := Claim7.holds Tryz.pinned (.plain (OpenSpec.upto scriptReadsSpec)) scriptReadsUptoCard

/-- THE SECOND FORM's CARD OF 'lavabolaw21.ScriptLasts'. -/
def scriptLastsUptoCard : Claim7 := { stood := { row := scriptLastsUptoRow, standIns := [], harness := (true, "d680a94876b38306d375214cc97d85060d88285aaf259397b5cc15bc7438fc11"), looks := true }, kinds := [], alts := [], laidByText := true, laidKinds := [.data, .data], laidTests := true, laidLooks := .later }
def ScriptLastsUptoCardSaid : Prop := Claim7.holds Tryz.pinned (.plain (OpenSpec.upto scriptLastsSpec)) scriptLastsUptoCard
end Rows
end Go.Proofs.YtpejdgiccaijfaaGreatDoor
