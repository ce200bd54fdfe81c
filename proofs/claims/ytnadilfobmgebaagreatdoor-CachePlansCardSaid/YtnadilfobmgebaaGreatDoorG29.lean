/- A log: All. A log: All. What a function answers that is handed in (guard), for a log's things. A log: number, New, Len. -/
import Derived.Test.YtnadilfobmgebaaGreatDoorG25
import Derived.Test.YtnadilfobmgebaaGreatDoorG19
import Derived.Deep.LoopGhost
import Derived.Test.YtnadilfobmgebaaGreatDoorG28
import Derived.Test.YtnadilfobmgebaaGreatDoorG23
import Derived.Defers
import Derived.Recover
namespace Go.Proofs.YtnadilfobmgebaaGreatDoor
open Go Go.RowKit
def allTo (K : Kind) (zs : List Value) (base n : Nat) (F : List Bk) (O : List (Nat × Bk)) (i : Nat) : List (List Value) := ((List.range i).filter fun j => (logGetR K zs base n (j : Nat) F O []).2.1 == 0).map fun j => (logGetR K zs base n (j : Nat) F O []).1
def fine (K : Kind) (zs : List Value) (base n : Nat) (F : List Bk) (O : List (Nat × Bk)) (j : Nat) : Prop := (logGetR K zs base n (j : Nat) F O []).2.1 = 0 ∨ (logGetR K zs base n (j : Nat) F O []).2.1 = 14
theorem allTo_hit {K : Kind} {zs : List Value} {base n : Nat} {F : List Bk} {O : List (Nat × Bk)} {i : Nat} (h : (logGetR K zs base n (i : Nat) F O []).2.1 = 0) : allTo K zs base n F O (i + 1) = allTo K zs base n F O i ++ [(logGetR K zs base n (i : Nat) F O []).1] := by
  simp [allTo, List.range_succ, h]
theorem allTo_miss {K : Kind} {zs : List Value} {base n : Nat} {F : List Bk} {O : List (Nat × Bk)} {i : Nat} (h : (logGetR K zs base n (i : Nat) F O []).2.1 ≠ 0) : allTo K zs base n F O (i + 1) = allTo K zs base n F O i := by
  simp [allTo, List.range_succ, h]
structure LogC (w : World) (l b base n fi : Nat) : Prop where
  str : w.heap[l]? = some (.cells #[.pointer (some ⟨b, 0, none⟩), .int .i64 (base : Int), .int .i64 (n : Int), .func (.func 103) #[] #[], .func (.func 104) #[] #[], .func (.func fi) #[] #[]] 158 (0, 0))
theorem LogC.lt {w : World} {l b base n fi : Nat} (h : LogC w l b base n fi) : l < w.heap.size := lt_of_block h.str
theorem LogC.keep {w w' : World} {l b base n fi : Nat} (h : LogC w l b base n fi) {S : Nat → Prop} (hu : Upd S w w') (hs : ¬ S l) : LogC w' l b base n fi := ⟨(hu.block l h.lt hs).trans h.str⟩
theorem LogC.below {w w' : World} {l b base n fi : Nat} (h : LogC w l b base n fi) (hb : Below w.heap.size w w') : LogC w' l b base n fi := h.keep (Upd.of_below (S := fun _ => False) hb) (fun h => h)
theorem LogC.c {w : World} {l b base n fi : Nat} (h : LogC w l b base n fi) : w.cell? ⟨l, 0, none⟩ = some (.pointer (some ⟨b, 0, none⟩)) ∧ w.cell? ⟨l, 1, none⟩ = some (.int .i64 (base : Int)) ∧ w.cell? ⟨l, 2, none⟩ = some (.int .i64 (n : Int)) ∧
    w.cell? ⟨l, 3, none⟩ = some (.func (.func 103) #[] #[]) ∧ w.cell? ⟨l, 4, none⟩ = some (.func (.func 104) #[] #[]) ∧ w.cell? ⟨l, 5, none⟩ = some (.func (.func fi) #[] #[]) :=
  ⟨cell_of_block h.str 0, cell_of_block h.str 1, cell_of_block h.str 2, cell_of_block h.str 3, cell_of_block h.str 4, cell_of_block h.str 5⟩
end Go.Proofs.YtnadilfobmgebaaGreatDoor
