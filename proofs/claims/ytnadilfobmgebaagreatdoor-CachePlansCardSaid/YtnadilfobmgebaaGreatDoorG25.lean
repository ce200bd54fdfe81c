/- A log: Get. A new thing of many cells: its cells by a name. -/
import Derived.Test.YtnadilfobmgebaaGreatDoorG24
import Derived.Test.YtnadilfobmgebaaGreatDoorG19
namespace Go.Proofs.YtnadilfobmgebaaGreatDoor
open Go Go.RowKit
structure Kind where
  ok : Bk → Bool
  ds : Bk → List Value
  cd : Bk → Int
  nm : Bk → Int
def logGetR (K : Kind) (zs : List Value) (base n : Nat) (i : Int) (F : List Bk) (O : List (Nat × Bk)) (P : List Int) : List Value × Int × List Int :=
  if i < 0 ∨ (n : Int) ≤ i then (zs, 10, P) else if fate P = 1 then (zs, 19, P.tail) else if curB F O (base + i.toNat) = zB then (zs, 14, P.tail) else
    if K.ok (curB F O (base + i.toNat)) = true ∧ K.nm (curB F O (base + i.toNat)) = i then (K.ds (curB F O (base + i.toNat)), 0, P.tail) else (zs, 12, P.tail)
theorem wpList_allocZ {ops : Array Oper} {rest : List Oper} {o : Oper} {a : Act} {w : World} {Q : Exit → Act → World → Prop} (hg : o.guard = none) (t : TypeId) (ho : o.op = .alloc t) (cs : Array Value)
    (hrun : ∀ w : World, (Instr.alloc t true (.tuple #[])).run Tryz.prog w = .ok (.pointer (some ⟨w.heap.size, 0, none⟩)) (w.alloc (.cells cs t)))
    (h : wpList Tryz.prog ops Q rest (a.put o.dst (.pointer (some ⟨w.heap.size, 0, none⟩))) (w.alloc (.cells cs t))) : wpList Tryz.prog ops Q (o :: rest) a w := by
  refine wpList_plain hg fun K' hK' => ?_
  unfold Oper.wp
  simp only [execOp, ho, Sem.run_bind, hrun, Result.andThen_ok]
  exact hK' _ _ h
end Go.Proofs.YtnadilfobmgebaaGreatDoor
