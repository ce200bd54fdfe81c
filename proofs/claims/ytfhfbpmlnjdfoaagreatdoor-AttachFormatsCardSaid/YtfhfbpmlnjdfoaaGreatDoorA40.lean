/- A cache: Discard, Count, Devices, Place, Super, Places. A cache: Read. -/
import Derived.Test.YtfhfbpmlnjdfoaaGreatDoorA39
import Derived.Test.YtfhfbpmlnjdfoaaGreatDoorA13
namespace Go.Proofs.YtfhfbpmlnjdfoaaGreatDoor
open Go Go.RowKit
section
variable {own : Nat → Nat} {w w' : World} {c : Nat} {n : CaN} {p : CaP} {a : CaS} {N : Nat}
theorem ca_ccount (h : CaAt own w c n p a) (st : Int) : Calls Tryz.prog 26 #[ptr c, .int .i64 st] w (CaOut own w c n p a (.int .i64 (pos a.st st).length)) := by
  have HC := Lib.hid (ca_count h st)
  obtain ⟨-, -, -, -, -, cS, -, -, -⟩ := h.cells
  clear h
  go_enter Tryz.func26, Tryz.ntmps26
  go_wp2_with fail
  refine HC.out.mono ?_
  rintro e w3 ⟨rfl, own3, h3, d3⟩
  have H3 := Lib.hid (And.intro h3 d3)
  clear h3 d3 HC cS
  go_wp2
  go_ret
  exact ⟨rfl, own3, H3.out.1, H3.out.2⟩
end
end Go.Proofs.YtfhfbpmlnjdfoaaGreatDoor
