/-
  DERIVED. GIVEN WITH THE SEED: THE CARDS: each row of YtbnpkobbnjihjaaGreatDoorRows.lean that lists a variable, with what it lists TIED to the program's text (the seventh form; the later family's looks); each row that meets fmt, with fmt's text TOLD by the authors' own Lean function (tested against real Go, not proved from fmt's source: count such statements apart). THE CARD IS WHAT COUNTS. Prove the row's statement (the work); the ties are given (YtbnpkobbnjihjaaGreatDoorTie.lean); close each card by the builder's one call (the guide's Derived/Test/ToyasCard.lean, 'card_holds'). Laid BY PROGRAM, IN A SANDBOX (cutbox-door.mjs). By AI agents, Wed Nov 11 2026. No macro, syntax, notation, axiom, sorry.
-/
import Derived.Test.YtbnpkobbnjihjaaGreatDoorRows
import GoSem.ClaimSeven
namespace Go.Proofs.YtbnpkobbnjihjaaGreatDoor
namespace Rows

/-- THE TIED CARD OF 'lavabolaw21.ScriptErrs'. -/
def scriptErrsCard : Claim7 := { stood := { row := scriptErrsRow, standIns := [], harness := (true, "68554cf7cdaf8f4a47adec3d163c04aa706bc0e0c8a2321fea300cb366f5150f"), looks := true }, kinds := [], alts := [], laidByText := true, laidKinds := [.data, .data], laidTests := true, laidLooks := .later }
def ScriptErrsCardSaid : Prop := Claim7.holds Tryz.pinned (.plain (OpenSpec.ofChange scriptErrsSpec)) scriptErrsCard

/-- THE TIED CARD OF 'lavabolaw21.ScriptLasts'. -/
def scriptLastsCard : Claim7 := { stood := { row := scriptLastsRow, standIns := [], harness := (true, "68554cf7cdaf8f4a47adec3d163c04aa706bc0e0c8a2321fea300cb366f5150f"), looks := true }, kinds := [], alts := [], laidByText := true, laidKinds := [.data, .data], laidTests := true, laidLooks := .later }
def ScriptLastsCardSaid : Prop := Claim7.holds Tryz.pinned (.plain (OpenSpec.ofChange scriptLastsSpec)) scriptLastsCard

/-- THE SECOND FORM's CARD OF 'lavabolaw21.ScriptErrs'. -/
def scriptErrsUptoCard : Claim7 := { stood := { row := scriptErrsUptoRow, standIns := [], harness := (true, "68554cf7cdaf8f4a47adec3d163c04aa706bc0e0c8a2321fea300cb366f5150f"), looks := true }, kinds := [], alts := [], laidByText := true, laidKinds := [.data, .data], laidTests := true, laidLooks := .later }
def ScriptErrsUptoCardSaid : Prop := Claim7.holds Tryz.pinned (.plain (OpenSpec.upto scriptErrsSpec)) scriptErrsUptoCard

/-- THE SECOND FORM's CARD OF 'lavabolaw21.ScriptLasts'. -/
def scriptLastsUptoCard : Claim7 := { stood := { row := scriptLastsUptoRow, standIns := [], harness := (true, "68554cf7cdaf8f4a47adec3d163c04aa706bc0e0c8a2321fea300cb366f5150f"), looks := true }, kinds := [], alts := [], laidByText := true, laidKinds := [.data, .data], laidTests := true, laidLooks := .later }
def ScriptLastsUptoCardSaid : Prop := Claim7.holds Tryz.pinned (.plain (OpenSpec.upto scriptLastsSpec)) scriptLastsUptoCard
end Rows
end Go.Proofs.YtbnpkobbnjihjaaGreatDoor
