/-
  NARROWER THAN 'FOR EVERY INPUT', by the rows' own cells (each row's printed sentence says how): ScriptErrs: laid · ScriptLasts: laid.
  DERIVED. THE GIVEN ROWS OF THIS SEAT. 2 by the template 'for every input the law returns true; each argument reads behind the call as it read before'; 0 by the template 'total and deterministic' (their statements: YtbnpkobbnjihjaaGreatDoorTotals.lean).
  GIVEN WITH THE SEED: the statements are not yours to turn. If you find one false, say at which input.
  Laid BY PROGRAM, IN A SANDBOX (cutbox-rows.mjs): the forced cells as the released guide's own fill.sh prints them over the translation 815dbf18a6bf05c0… (all of the seat's roots in one cut). By AI agents, Wed Nov 11 2026. No macro, syntax, notation, axiom, sorry.
-/
import Derived.Test.YtbnpkobbnjihjaaGreatDoorChecked
import GoSem.Claim
import GoSem.ClaimJoined
import GoSem.ClaimMapViews
import Derived.JoinedTies
import Derived.KernelRfl
namespace Go.Proofs.YtbnpkobbnjihjaaGreatDoor
/- THE CELL 'sum', in the pinned program and in every row, IS THE sha256 OF THE DUMP (.gsa) THAT YtbnpkobbnjihjaaGreatDoorProg.lean LOADS. Nothing in Lean hashes anything: it is a label: what it is worth is what the hold of that sum in a sandbox is worth. -/
noncomputable def Tryz.pinned : Pinned := { name := "ytbnpkobbnjihjaagreatdoor", sum := "815dbf18a6bf05c0c54032183124a742d119f3f792e5d56db1e913744a7d23c7", checked := Tryz.checked }
namespace Rows
def none {H : Type} : Left H := { results := [], args := [] }

/- WHAT THE LISTED PACKAGE-LEVEL VARIABLES READ AS WHEN THE CALL BEGINS. Each datum BY PROGRAM (the guide's laid-datum.mjs) off the statement by which the dump's own 'gosem.cut.vars' lays the variable. In a bare row this is a premise. The card (YtbnpkobbnjihjaaGreatDoorCards.lean) ties it to the program's text. -/
def laid_lavabo_crc_nibbles {H : Type} : DataW H := .agg [.lit (.int .i64 0), .lit (.int .i64 274646895), .lit (.int .i64 549293790), .lit (.int .i64 820201905), .lit (.int .i64 1098587580), .lit (.int .i64 1361435347), .lit (.int .i64 1640403810), .lit (.int .i64 1905808397), .lit (.int .i64 2197175160), .lit (.int .i64 2460548119), .lit (.int .i64 2722870694), .lit (.int .i64 2987750089), .lit (.int .i64 3280807620), .lit (.int .i64 3553878443), .lit (.int .i64 3811616794), .lit (.int .i64 4084100981)]
def laid_lavabo_slots_turns {H : Type} : DataW H := .agg [.lit (.int .i64 2), .lit (.int .i64 28), .lit (.int .i64 24), .lit (.int .i64 17), .lit (.int .i64 0)]

/-- 'lavabolaw21.ScriptErrs': WHATEVER THE INPUT: true; the input reads as it did. -/
def scriptErrsSpec : ChangeSpec := { name := "scriptErrs", fn := fun _ => fun
  | [d1, d2] => { results := [.lit (.bool true)], args := [d1, d2] }
  | _ => none }
def scriptErrsRow : OpenClaim := { program := "ytbnpkobbnjihjaagreatdoor", sum := "815dbf18a6bf05c0c54032183124a742d119f3f792e5d56db1e913744a7d23c7", func := "lavabo/lavabolaw21.ScriptErrs", spec := "scriptErrs", inPlace := ["maps.clone", "slices.overlaps[lavabo/api.Span]"], unfollowed := true, recurses := true, named := ["lavabo/crc.nibbles", "lavabo/slots.turns"], apart := false, laid := [("lavabo/crc.nibbles", laid_lavabo_crc_nibbles), ("lavabo/slots.turns", laid_lavabo_slots_turns)] }
def ScriptErrsSaid : Prop := scriptErrsRow.holds Tryz.pinned (OpenSpec.ofChange scriptErrsSpec)

/-- ITS FALSE NEIGHBOUR: 'it returns false'. Refute it at one input. -/
def scriptErrsWrong : ChangeSpec := { name := "scriptErrs", fn := fun _ => fun
  | [d1, d2] => { results := [.lit (.bool false)], args := [d1, d2] }
  | _ => none }
def ScriptErrsWrongFalsely : Prop := scriptErrsRow.holds Tryz.pinned (OpenSpec.ofChange scriptErrsWrong)

/-- 'lavabolaw21.ScriptLasts': WHATEVER THE INPUT: true; the input reads as it did. -/
def scriptLastsSpec : ChangeSpec := { name := "scriptLasts", fn := fun _ => fun
  | [d1, d2, d3] => { results := [.lit (.bool true)], args := [d1, d2, d3] }
  | _ => none }
def scriptLastsRow : OpenClaim := { program := "ytbnpkobbnjihjaagreatdoor", sum := "815dbf18a6bf05c0c54032183124a742d119f3f792e5d56db1e913744a7d23c7", func := "lavabo/lavabolaw21.ScriptLasts", spec := "scriptLasts", inPlace := ["maps.clone", "slices.overlaps[lavabo/api.Span]"], unfollowed := true, recurses := true, named := ["lavabo/crc.nibbles", "lavabo/slots.turns"], apart := false, laid := [("lavabo/crc.nibbles", laid_lavabo_crc_nibbles), ("lavabo/slots.turns", laid_lavabo_slots_turns)] }
def ScriptLastsSaid : Prop := scriptLastsRow.holds Tryz.pinned (OpenSpec.ofChange scriptLastsSpec)

/-- ITS FALSE NEIGHBOUR: 'it returns false'. Refute it at one input. -/
def scriptLastsWrong : ChangeSpec := { name := "scriptLasts", fn := fun _ => fun
  | [d1, d2, d3] => { results := [.lit (.bool false)], args := [d1, d2, d3] }
  | _ => none }
def ScriptLastsWrongFalsely : Prop := scriptLastsRow.holds Tryz.pinned (OpenSpec.ofChange scriptLastsWrong)

/- THE SECOND FORM. 'bulk': how many values and letters a reading holds, each counted each time it is reached (what is shared counts as often as it is met; a slice's spare places count too). A statement '..UptoSaid' is the law's where the arguments, and the package variables that the reading takes, are together of bulk at most 1048576: NARROWER than '..Said'. Prove '..Said' where nothing that the law and all that it calls make is longer than what came in: it says more and counts as full. Else prove '..UptoSaid'. A law counts once. -/
mutual
def uptoBulk {H : Type} : DataW H → Nat
  | .lit (.string bytes) => bytes.length + 1
  | .lit _ => 1
  | .nil => 1
  | .ptr d => uptoBulk d + 1
  | .slice elems spare => uptoBulkAll elems + uptoBulkAll spare + 1
  | .agg parts => uptoBulkAll parts + 1
  | .iface _ d => uptoBulk d + 1
  | .map entries => uptoBulkEntries entries + 1
  | .held _ => 1
def uptoBulkAll {H : Type} : List (DataW H) → Nat
  | [] => 0
  | d :: r => uptoBulk d + uptoBulkAll r
def uptoBulkEntries {H : Type} : List (Lit × DataW H) → Nat
  | [] => 0
  | x :: r => uptoBulkEntry x + uptoBulkEntries r
def uptoBulkEntry {H : Type} : Lit × DataW H → Nat
  | (.string bytes, d) => bytes.length + uptoBulk d + 1
  | (_, d) => uptoBulk d + 1
 end
def uptoSmall : (H : Type) → List (DataW H) → Bool := fun _ ds => decide (uptoBulkAll ds ≤ 1048576)
def OpenSpec.upto (s : _root_.Go.ChangeSpec) : _root_.Go.OpenSpec := { _root_.Go.OpenSpec.ofChange s with cond := some uptoSmall }

/-- 'lavabolaw21.ScriptErrs', WHERE WHAT IT READS IS OF BULK AT MOST 1048576: true; the input reads as it did. -/
def scriptErrsUptoRow : OpenClaim := { program := "ytbnpkobbnjihjaagreatdoor", sum := "815dbf18a6bf05c0c54032183124a742d119f3f792e5d56db1e913744a7d23c7", func := "lavabo/lavabolaw21.ScriptErrs", spec := "scriptErrs", inPlace := ["maps.clone", "slices.overlaps[lavabo/api.Span]"], unfollowed := true, recurses := true, named := ["lavabo/crc.nibbles", "lavabo/slots.turns"], apart := false, laid := [("lavabo/crc.nibbles", laid_lavabo_crc_nibbles), ("lavabo/slots.turns", laid_lavabo_slots_turns)], narrowed := true }
def ScriptErrsUptoSaid : Prop := scriptErrsUptoRow.holds Tryz.pinned (OpenSpec.upto scriptErrsSpec)

/-- 'lavabolaw21.ScriptLasts', WHERE WHAT IT READS IS OF BULK AT MOST 1048576: true; the input reads as it did. -/
def scriptLastsUptoRow : OpenClaim := { program := "ytbnpkobbnjihjaagreatdoor", sum := "815dbf18a6bf05c0c54032183124a742d119f3f792e5d56db1e913744a7d23c7", func := "lavabo/lavabolaw21.ScriptLasts", spec := "scriptLasts", inPlace := ["maps.clone", "slices.overlaps[lavabo/api.Span]"], unfollowed := true, recurses := true, named := ["lavabo/crc.nibbles", "lavabo/slots.turns"], apart := false, laid := [("lavabo/crc.nibbles", laid_lavabo_crc_nibbles), ("lavabo/slots.turns", laid_lavabo_slots_turns)], narrowed := true }
def ScriptLastsUptoSaid : Prop := scriptLastsUptoRow.holds Tryz.pinned (OpenSpec.upto scriptLastsSpec)

end Rows
end Go.Proofs.YtbnpkobbnjihjaaGreatDoor
