/- What a function answers that is handed in (guard), for a log's things. A log: number, New, Len. -/
import Derived.Test.YtnadilfobmgebaaGreatDoorG23
import Derived.Defers
import Derived.Recover
namespace Go.Proofs.YtnadilfobmgebaaGreatDoor
open Go Go.RowKit
structure LogF (w : World) (l b base n fi : Nat) : Prop where
  str : w.heap[l]? = some (.cells #[.pointer (some ⟨b, 0, none⟩), .int .i64 (base : Int), .int .i64 (n : Int), .func (.func 107) #[] #[], .func (.func 108) #[] #[], .func (.func fi) #[] #[]] 165 (0, 0))
theorem LogF.lt {w : World} {l b base n fi : Nat} (h : LogF w l b base n fi) : l < w.heap.size := lt_of_block h.str
theorem LogF.keep {w w' : World} {l b base n fi : Nat} (h : LogF w l b base n fi) {S : Nat → Prop} (hu : Upd S w w') (hs : ¬ S l) : LogF w' l b base n fi := ⟨(hu.block l h.lt hs).trans h.str⟩
theorem LogF.below {w w' : World} {l b base n fi : Nat} (h : LogF w l b base n fi) (hb : Below w.heap.size w w') : LogF w' l b base n fi := h.keep (Upd.of_below (S := fun _ => False) hb) (fun h => h)
theorem LogF.c {w : World} {l b base n fi : Nat} (h : LogF w l b base n fi) : w.cell? ⟨l, 0, none⟩ = some (.pointer (some ⟨b, 0, none⟩)) ∧ w.cell? ⟨l, 1, none⟩ = some (.int .i64 (base : Int)) ∧ w.cell? ⟨l, 2, none⟩ = some (.int .i64 (n : Int)) ∧
    w.cell? ⟨l, 3, none⟩ = some (.func (.func 107) #[] #[]) ∧ w.cell? ⟨l, 4, none⟩ = some (.func (.func 108) #[] #[]) ∧ w.cell? ⟨l, 5, none⟩ = some (.func (.func fi) #[] #[]) :=
  ⟨cell_of_block h.str 0, cell_of_block h.str 1, cell_of_block h.str 2, cell_of_block h.str 3, cell_of_block h.str 4, cell_of_block h.str 5⟩
end Go.Proofs.YtnadilfobmgebaaGreatDoor
