/- A journal: Room, Add. A journal: Commit. A journal: Commit, the whole. A journal: Commit, the whole. A cache's devices and journal, call by call. -/
import Derived.Test.YtfhfbpmlnjdfoaaGreatDoorA19
import Derived.Test.YtfhfbpmlnjdfoaaGreatDoorA03
import Derived.Test.YtfhfbpmlnjdfoaaGreatDoorA09
import Derived.Deep.DrawnRows
import Derived.Test.YtfhfbpmlnjdfoaaGreatDoorA08
namespace Go.Proofs.YtfhfbpmlnjdfoaaGreatDoor
open Go Go.RowKit
attribute [local go_sem ↓] wp_build_wrT wp_row_wrT run_build_mapT run_row_mapT Go.wp_at_zero Go.wp_at_succ
theorem writeR_F (F : List Bk) (O : List (Nat × Bk)) (P : List Int) (s : Nat) (y : Bk) : (writeR F O P s y).F = F := by
  unfold writeR; split; rfl; split <;> rfl
theorem writeR_O (F : List Bk) (O : List (Nat × Bk)) (P : List Int) (s : Nat) (y : Bk) : (writeR F O P s y).O.length ≤ O.length + 1 := by
  unfold writeR; split; simp; split <;> simp
section
variable {own : Nat → Nat} {w w' : World} {c : Nat} {n : CaN} {p : CaP} {a : CaS}
abbrev CaS.dev (a : CaS) (r : DRes) : CaS := { a with dF := r.F, dO := r.O, dP := r.P }
abbrev CaS.bdev (a : CaS) (r : DRes) : CaS := { a with bF := r.F, bO := r.O, bP := r.P }
end
end Go.Proofs.YtfhfbpmlnjdfoaaGreatDoor
