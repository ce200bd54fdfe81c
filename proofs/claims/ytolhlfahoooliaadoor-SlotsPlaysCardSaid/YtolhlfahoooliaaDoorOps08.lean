/- The operations on slots that come in: a list of structs. -/
import Derived.Test.YtolhlfahoooliaaDoorAwake08
import Derived.Test.YtolhlfahoooliaaDoorSlotsIt
import Derived.Test.YtolhlfahoooliaaDoorLaw
import Derived.Deep.Strs
namespace Go.Proofs.YtolhlfahoooliaaDoor
open Go Go.RowKit Go.ChangeShapes Go.WideShapes Go.ChangeAt

/-- An operation: whether to allocate; the slot; the state. -/
abbrev Op8 := Bool × Int × Int
def op8C (o : Op8) : List Value := [.bool o.1, .int .i64 o.2.1, .int .i64 o.2.2]
def ops8 (l : List Op8) : List Value := l.flatMap op8C
theorem ops8_at {l : List Op8} {k : Nat} (h : k < l.length) : (ops8 l)[k * 3]? = some (.bool l[k].1) ∧ (ops8 l)[k * 3 + 1]? = some (.int .i64 l[k].2.1) ∧ (ops8 l)[k * 3 + 2]? = some (.int .i64 l[k].2.2) :=
  ⟨flat_at (f := op8C) (k := 3) (fun _ => rfl) l k 0 (by decide) l[k] (List.getElem?_eq_getElem h),
   flat_at (f := op8C) (k := 3) (fun _ => rfl) l k 1 (by decide) l[k] (List.getElem?_eq_getElem h),
   flat_at (f := op8C) (k := 3) (fun _ => rfl) l k 2 (by decide) l[k] (List.getElem?_eq_getElem h)⟩
theorem cells30 : Tryd.prog.cellsOf 30 = 3 := by kernel_rfl
theorem cells3' : Tryd.prog.cellsOf 3 = 1 := by kernel_rfl
theorem cells4' : Tryd.prog.cellsOf 4 = 1 := by kernel_rfl
theorem op8El {H : Type} {enc : TypeId × Value → H} {W : World} (n : Nat) (cs : List Value) (x : DataW H × List MemPlace) (h : DataW.trod enc Tryd.prog W 0 (fun _ => true) true n 30 cs = some x) : ∃ a : Op8, cs = op8C a ∧ True := by
  obtain ⟨y0, y1, y2, m, _, hl, h0, h1, h2⟩ := Deep.trod_struct3 Tryd.underlying30 h
  rw [cells30] at hl
  match cs, hl with
  | [c0, c1, c2], _ =>
    simp only [cells3', cells4', List.drop_zero, List.take_succ_cons, List.take_zero, List.drop_succ_cons] at h0 h1 h2
    obtain ⟨a, ha, _⟩ := DataW.trod_bool Tryd.underlying4 h0
    obtain ⟨b, hb, _, _⟩ := DataW.trod_int Tryd.underlying3 h1
    obtain ⟨c, hc, _, _⟩ := DataW.trod_int Tryd.underlying3 h2
    cases ha; cases hb; cases hc
    exact ⟨(a, b, c), rfl, trivial⟩

theorem allocList_len (l : List Int) : (allocList l).length = l.length := by simp [allocList]
theorem turnList_len (l : List Int) (a b : Int) : (turnList l a b).length = l.length := by unfold turnList; split <;> simp
end Go.Proofs.YtolhlfahoooliaaDoor
