/-
  NARROWER THAN 'FOR EVERY INPUT', by the rows' own cells (each row's printed sentence says how): SlotsMay: laid · SlotsTakes: laid · SlotsRound: laid · SlotsPlays: laid · SlotsWhole: laid · SlotsNil: laid.
  DERIVED. THE GIVEN ROWS OF THIS SEAT. 6 by the template 'for every input the law returns true; each argument reads behind the call as it read before'; 0 by the template 'total and deterministic' (their statements: YtolhlfahoooliaaDoorTotals.lean).
  GIVEN WITH THE SEED: the statements are not yours to turn. If you find one false, say at which input.
  Laid BY PROGRAM, IN A SANDBOX (cutbox-rows.mjs): the forced cells as the released guide's own fill.sh prints them over the translation f10b893514051885… (all of the seat's roots in one cut). By AI agents, Wed Nov 11 2026. No macro, syntax, notation, axiom, sorry.
-/
import Derived.Test.YtolhlfahoooliaaDoorChecked
import GoSem.Claim
import GoSem.ClaimJoined
import GoSem.ClaimMapViews
import Derived.JoinedTies
import Derived.KernelRfl
namespace Go.Proofs.YtolhlfahoooliaaDoor
/- THE CELL 'sum', in the pinned program and in every row, IS THE sha256 OF THE DUMP (.gsa) THAT YtolhlfahoooliaaDoorProg.lean LOADS. Nothing in Lean hashes anything: it is a label: what it is worth is what the hold of that sum in a sandbox is worth. -/
noncomputable def Tryd.pinned : Pinned := { name := "ytolhlfahoooliaadoor", sum := "f10b89351405188537216c87e4d71d7713117d94b6e5a8ee9854a75fe41d869a", checked := Tryd.checked }
namespace Rows
def none {H : Type} : Left H := { results := [], args := [] }

/- WHAT THE LISTED PACKAGE-LEVEL VARIABLES READ AS WHEN THE CALL BEGINS. Each datum BY PROGRAM (the guide's laid-datum.mjs) off the statement by which the dump's own 'gosem.cut.vars' lays the variable. In a bare row this is a premise. The card (YtolhlfahoooliaaDoorCards.lean) ties it to the program's text. -/
def laid_lavabo_slots_turns {H : Type} : DataW H := .agg [.lit (.int .i64 2), .lit (.int .i64 28), .lit (.int .i64 24), .lit (.int .i64 17), .lit (.int .i64 0)]

/-- 'lavabolaw08.SlotsMay': WHATEVER THE INPUT: true; the input reads as it did. -/
def slotsMaySpec : ChangeSpec := { name := "slotsMay", fn := fun _ => fun
  | [d1, d2] => { results := [.lit (.bool true)], args := [d1, d2] }
  | _ => none }
def slotsMayRow : OpenClaim := { program := "ytolhlfahoooliaadoor", sum := "f10b89351405188537216c87e4d71d7713117d94b6e5a8ee9854a75fe41d869a", func := "lavabo/lavabolaw08.SlotsMay", spec := "slotsMay", named := ["lavabo/slots.turns"], apart := false, laid := [("lavabo/slots.turns", laid_lavabo_slots_turns)] }
def SlotsMaySaid : Prop := slotsMayRow.holds Tryd.pinned (OpenSpec.ofChange slotsMaySpec)

/-- ITS FALSE NEIGHBOUR: 'it returns false'. Refute it at one input. -/
def slotsMayWrong : ChangeSpec := { name := "slotsMay", fn := fun _ => fun
  | [d1, d2] => { results := [.lit (.bool false)], args := [d1, d2] }
  | _ => none }
def SlotsMayWrongFalsely : Prop := slotsMayRow.holds Tryd.pinned (OpenSpec.ofChange slotsMayWrong)

/-- 'lavabolaw08.SlotsTakes': WHATEVER THE INPUT: true; the input reads as it did. -/
def slotsTakesSpec : ChangeSpec := { name := "slotsTakes", fn := fun _ => fun
  | [d1, d2] => { results := [.lit (.bool true)], args := [d1, d2] }
  | _ => none }
def slotsTakesRow : OpenClaim := { program := "ytolhlfahoooliaadoor", sum := "f10b89351405188537216c87e4d71d7713117d94b6e5a8ee9854a75fe41d869a", func := "lavabo/lavabolaw08.SlotsTakes", spec := "slotsTakes", unfollowed := true, recurses := true, named := ["lavabo/slots.turns"], apart := false, laid := [("lavabo/slots.turns", laid_lavabo_slots_turns)] }
def SlotsTakesSaid : Prop := slotsTakesRow.holds Tryd.pinned (OpenSpec.ofChange slotsTakesSpec)

/-- ITS FALSE NEIGHBOUR: 'it returns false'. Refute it at one input. -/
def slotsTakesWrong : ChangeSpec := { name := "slotsTakes", fn := fun _ => fun
  | [d1, d2] => { results := [.lit (.bool false)], args := [d1, d2] }
  | _ => none }
def SlotsTakesWrongFalsely : Prop := slotsTakesRow.holds Tryd.pinned (OpenSpec.ofChange slotsTakesWrong)

/-- 'lavabolaw08.SlotsRound': WHATEVER THE INPUT: true; the input reads as it did. -/
def slotsRoundSpec : ChangeSpec := { name := "slotsRound", fn := fun _ => fun
  | [d] => { results := [.lit (.bool true)], args := [d] }
  | _ => none }
def slotsRoundRow : OpenClaim := { program := "ytolhlfahoooliaadoor", sum := "f10b89351405188537216c87e4d71d7713117d94b6e5a8ee9854a75fe41d869a", func := "lavabo/lavabolaw08.SlotsRound", spec := "slotsRound", unfollowed := true, recurses := true, named := ["lavabo/slots.turns"], apart := false, laid := [("lavabo/slots.turns", laid_lavabo_slots_turns)] }
def SlotsRoundSaid : Prop := slotsRoundRow.holds Tryd.pinned (OpenSpec.ofChange slotsRoundSpec)

/-- ITS FALSE NEIGHBOUR: 'it returns false'. Refute it at one input. -/
def slotsRoundWrong : ChangeSpec := { name := "slotsRound", fn := fun _ => fun
  | [d] => { results := [.lit (.bool false)], args := [d] }
  | _ => none }
def SlotsRoundWrongFalsely : Prop := slotsRoundRow.holds Tryd.pinned (OpenSpec.ofChange slotsRoundWrong)

/-- 'lavabolaw08.SlotsPlays': WHATEVER THE INPUT: true; the input reads as it did. -/
def slotsPlaysSpec : ChangeSpec := { name := "slotsPlays", fn := fun _ => fun
  | [d1, d2] => { results := [.lit (.bool true)], args := [d1, d2] }
  | _ => none }
def slotsPlaysRow : OpenClaim := { program := "ytolhlfahoooliaadoor", sum := "f10b89351405188537216c87e4d71d7713117d94b6e5a8ee9854a75fe41d869a", func := "lavabo/lavabolaw08.SlotsPlays", spec := "slotsPlays", unfollowed := true, recurses := true, named := ["lavabo/slots.turns"], apart := false, laid := [("lavabo/slots.turns", laid_lavabo_slots_turns)] }
def SlotsPlaysSaid : Prop := slotsPlaysRow.holds Tryd.pinned (OpenSpec.ofChange slotsPlaysSpec)

/-- ITS FALSE NEIGHBOUR: 'it returns false'. Refute it at one input. -/
def slotsPlaysWrong : ChangeSpec := { name := "slotsPlays", fn := fun _ => fun
  | [d1, d2] => { results := [.lit (.bool false)], args := [d1, d2] }
  | _ => none }
def SlotsPlaysWrongFalsely : Prop := slotsPlaysRow.holds Tryd.pinned (OpenSpec.ofChange slotsPlaysWrong)

/-- 'lavabolaw08.SlotsWhole': WHATEVER THE INPUT: true; the input reads as it did. -/
def slotsWholeSpec : ChangeSpec := { name := "slotsWhole", fn := fun _ => fun
  | [d1, d2] => { results := [.lit (.bool true)], args := [d1, d2] }
  | _ => none }
def slotsWholeRow : OpenClaim := { program := "ytolhlfahoooliaadoor", sum := "f10b89351405188537216c87e4d71d7713117d94b6e5a8ee9854a75fe41d869a", func := "lavabo/lavabolaw08.SlotsWhole", spec := "slotsWhole", unfollowed := true, recurses := true, named := ["lavabo/slots.turns"], apart := false, laid := [("lavabo/slots.turns", laid_lavabo_slots_turns)] }
def SlotsWholeSaid : Prop := slotsWholeRow.holds Tryd.pinned (OpenSpec.ofChange slotsWholeSpec)

/-- ITS FALSE NEIGHBOUR: 'it returns false'. Refute it at one input. -/
def slotsWholeWrong : ChangeSpec := { name := "slotsWhole", fn := fun _ => fun
  | [d1, d2] => { results := [.lit (.bool false)], args := [d1, d2] }
  | _ => none }
def SlotsWholeWrongFalsely : Prop := slotsWholeRow.holds Tryd.pinned (OpenSpec.ofChange slotsWholeWrong)

/-- 'lavabolaw08.SlotsNil': WHATEVER THE INPUT: true; the input reads as it did. -/
def slotsNilSpec : ChangeSpec := { name := "slotsNil", fn := fun _ => fun
  | [d1, d2] => { results := [.lit (.bool true)], args := [d1, d2] }
  | _ => none }
def slotsNilRow : OpenClaim := { program := "ytolhlfahoooliaadoor", sum := "f10b89351405188537216c87e4d71d7713117d94b6e5a8ee9854a75fe41d869a", func := "lavabo/lavabolaw08.SlotsNil", spec := "slotsNil", unfollowed := true, recurses := true, named := ["lavabo/slots.turns"], apart := false, laid := [("lavabo/slots.turns", laid_lavabo_slots_turns)] }
def SlotsNilSaid : Prop := slotsNilRow.holds Tryd.pinned (OpenSpec.ofChange slotsNilSpec)

/-- ITS FALSE NEIGHBOUR: 'it returns false'. Refute it at one input. -/
def slotsNilWrong : ChangeSpec := { name := "slotsNil", fn := fun _ => fun
  | [d1, d2] => { results := [.lit (.bool false)], args := [d1, d2] }
  | _ => none }
def SlotsNilWrongFalsely : Prop := slotsNilRow.holds Tryd.pinned (OpenSpec.ofChange slotsNilWrong)

/- THE SECOND FORM. 'bulk': how many values and letters a reading holds, each counted each time it is reached (what is shared counts as often as it is met; a slice's spare places count too). A statement '..UptoSaid' is the law's where the arguments, and the package variables that the reading takes, are together of bulk at most 1048576: NARROWER than '..Said'. Prove '..Said' where nothing that the law and all that it calls make is longer than what came in: it says more and counts as full. Else prove '..UptoSaid'. A law counts once. -/
mutual
def uptoBulk {H : Type} : DataW H → Nat
  | .lit (.string bytes) => bytes.length + 1
  | .lit _ => 1
  | .nil => 1
  | .ptr d => uptoBulk d + 1
  | .slice elems spare => uptoBulkAll elems + uptoBulkAll spare + 1
  | .agg parts => uptoBulkAll parts + 1
  | .iface _ d => uptoBulk d + 1
  | .map entries => uptoBulkEntries entries + 1
  | .held _ => 1
def uptoBulkAll {H : Type} : List (DataW H) → Nat
  | [] => 0
  | d :: r => uptoBulk d + uptoBulkAll r
def uptoBulkEntries {H : Type} : List (Lit × DataW H) → Nat
  | [] => 0
  | x :: r => uptoBulkEntry x + uptoBulkEntries r
def uptoBulkEntry {H : Type} : Lit × DataW H → Nat
  | (.string bytes, d) => bytes.length + uptoBulk d + 1
  | (_, d) => uptoBulk d + 1
 end
def uptoSmall : (H : Type) → List (DataW H) → Bool := fun _ ds => decide (uptoBulkAll ds ≤ 1048576)
def OpenSpec.upto (s : _root_.Go.ChangeSpec) : _root_.Go.OpenSpec := { _root_.Go.OpenSpec.ofChange s with cond := some uptoSmall }

/-- 'lavabolaw08.SlotsMay', WHERE WHAT IT READS IS OF BULK AT MOST 1048576: true; the input reads as it did. -/
def slotsMayUptoRow : OpenClaim := { program := "ytolhlfahoooliaadoor", sum := "f10b89351405188537216c87e4d71d7713117d94b6e5a8ee9854a75fe41d869a", func := "lavabo/lavabolaw08.SlotsMay", spec := "slotsMay", named := ["lavabo/slots.turns"], apart := false, laid := [("lavabo/slots.turns", laid_lavabo_slots_turns)], narrowed := true }
def SlotsMayUptoSaid : Prop := slotsMayUptoRow.holds Tryd.pinned (OpenSpec.upto slotsMaySpec)

/-- 'lavabolaw08.SlotsTakes', WHERE WHAT IT READS IS OF BULK AT MOST 1048576: true; the input reads as it did. -/
def slotsTakesUptoRow : OpenClaim := { program := "ytolhlfahoooliaadoor", sum := "f10b89351405188537216c87e4d71d7713117d94b6e5a8ee9854a75fe41d869a", func := "lavabo/lavabolaw08.SlotsTakes", spec := "slotsTakes", unfollowed := true, recurses := true, named := ["lavabo/slots.turns"], apart := false, laid := [("lavabo/slots.turns", laid_lavabo_slots_turns)], narrowed := true }
def SlotsTakesUptoSaid : Prop := slotsTakesUptoRow.holds Tryd.pinned (OpenSpec.upto slotsTakesSpec)

/-- 'lavabolaw08.SlotsRound', WHERE WHAT IT READS IS OF BULK AT MOST 1048576: true; the input reads as it did. -/
def slotsRoundUptoRow : OpenClaim := { program := "ytolhlfahoooliaadoor", sum := "f10b89351405188537216c87e4d71d7713117d94b6e5a8ee9854a75fe41d869a", func := "lavabo/lavabolaw08.SlotsRound", spec := "slotsRound", unfollowed := true, recurses := true, named := ["lavabo/slots.turns"], apart := false, laid := [("lavabo/slots.turns", laid_lavabo_slots_turns)], narrowed := true }
def SlotsRoundUptoSaid : Prop := slotsRoundUptoRow.holds Tryd.pinned (OpenSpec.upto slotsRoundSpec)

/-- 'lavabolaw08.SlotsPlays', WHERE WHAT IT READS IS OF BULK AT MOST 1048576: true; the input reads as it did. -/
def slotsPlaysUptoRow : OpenClaim := { program := "ytolhlfahoooliaadoor", sum := "f10b89351405188537216c87e4d71d7713117d94b6e5a8ee9854a75fe41d869a", func := "lavabo/lavabolaw08.SlotsPlays", spec := "slotsPlays", unfollowed := true, recurses := true, named := ["lavabo/slots.turns"], apart := false, laid := [("lavabo/slots.turns", laid_lavabo_slots_turns)], narrowed := true }
def SlotsPlaysUptoSaid : Prop := slotsPlaysUptoRow.holds Tryd.pinned (OpenSpec.upto slotsPlaysSpec)

/-- 'lavabolaw08.SlotsWhole', WHERE WHAT IT READS IS OF BULK AT MOST 1048576: true; the input reads as it did. -/
def slotsWholeUptoRow : OpenClaim := { program := "ytolhlfahoooliaadoor", sum := "f10b89351405188537216c87e4d71d7713117d94b6e5a8ee9854a75fe41d869a", func := "lavabo/lavabolaw08.SlotsWhole", spec := "slotsWhole", unfollowed := true, recurses := true, named := ["lavabo/slots.turns"], apart := false, laid := [("lavabo/slots.turns", laid_lavabo_slots_turns)], narrowed := true }
def SlotsWholeUptoSaid : Prop := slotsWholeUptoRow.holds Tryd.pinned (OpenSpec.upto slotsWholeSpec)

/-- 'lavabolaw08.SlotsNil', WHERE WHAT IT READS IS OF BULK AT MOST 1048576: true; the input reads as it did. -/
def slotsNilUptoRow : OpenClaim := { program := "ytolhlfahoooliaadoor", sum := "f10b89351405188537216c87e4d71d7713117d94b6e5a8ee9854a75fe41d869a", func := "lavabo/lavabolaw08.SlotsNil", spec := "slotsNil", unfollowed := true, recurses := true, named := ["lavabo/slots.turns"], apart := false, laid := [("lavabo/slots.turns", laid_lavabo_slots_turns)], narrowed := true }
def SlotsNilUptoSaid : Prop := slotsNilUptoRow.holds Tryd.pinned (OpenSpec.upto slotsNilSpec)

end Rows
end Go.Proofs.YtolhlfahoooliaaDoor
