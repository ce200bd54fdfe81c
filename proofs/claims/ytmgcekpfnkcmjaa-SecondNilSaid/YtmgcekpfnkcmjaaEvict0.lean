/- The clock's Evict: may, goes (with its deferred closure). -/
import Derived.Test.YtmgcekpfnkcmjaaClock2
namespace Go.Proofs.Ytmgcekpfnkcmjaa
open Go Go.RowKit

/-- Which keys may go. -/
def mayB (s k : Int) : Bool := decide (s ≤ 0) || (k.tmod s != 0)
theorem mayB_pos {s k : Int} (h : 0 < s) : mayB s k = (k.tmod s != 0) := by
  unfold mayB; rw [decide_eq_false (by omega)]; rfl
theorem mayB_all {s k : Int} (h : s ≤ 0) : mayB s k = true := by
  unfold mayB; rw [decide_eq_true h]; rfl

/-- The method value of those that leave a rest. -/
abbrev mayV (s : Int) : Value := .func (.func 39) #[.agg #[.int .i64 s]] #[]

set_option maxRecDepth 100000 in
theorem may_any (s k : Int) (hs : InR s) (hk : InR k) (w : World) :
    Calls Try.prog 39 #[.agg #[.int .i64 s], .int .i64 k] w fun e w' => e = .returned (.bool (mayB s k)) ∧ Below w.heap.size w w' := by
  unfold InR at hs hk
  obtain ⟨h1, h2⟩ := hs
  obtain ⟨h3, h4⟩ := hk
  by_cases h : s ≤ 0
  · have HM : Hid (mayB s k = true) := mayB_all h
    go_enter Try.func39, Try.ntmps39
    go_wp2
    go_ret
    exact ⟨by rw [HM.out]; rfl, (Below.refl _ _).alloc (Nat.le_refl _) _⟩
  · have HM : Hid (mayB s k = (k.tmod s != 0)) := mayB_pos (by omega)
    have q : ¬ s = 0 := by omega
    go_enter Try.func39, Try.ntmps39
    go_wp2
    go_ret
    refine ⟨?_, (Below.refl _ _).alloc (Nat.le_refl _) _⟩
    rw [HM.out]; rfl

set_option maxRecDepth 100000 in
theorem goes_any (s k : Int) (hs : InR s) (hk : InR k) (w : World) (g : Nat) (hg : w.cell? ⟨g, 0, none⟩ = some (mayV s)) :
    Calls Try.prog 70 #[.int .i64 k, .pointer (some ⟨g, 0, none⟩)] w fun e w' => e = .returned (.bool (mayB s k)) ∧ Below w.heap.size w w' := by
  have hmf : ∀ (fn : Fn) (first cap : Array Value) (w : World), (Instr.makeFunc fn first cap).run Try.prog w = .ok (.func fn first cap) w := fun _ _ _ _ => rfl
  have hlt := (addr_of_cell hg).2
  have hg1 := (((Upd.refl (fun _ => False) w).alloc (.cells #[.bool false] 4)).cellAt hlt (fun h => h)).trans hg
  clear hg
  go_enter_defers Try.func70, Try.ntmps70
  go_wp2_with fail
  refine (may_any s k hs hk _).mono ?_
  rintro e w1 ⟨rfl, hb1⟩
  have hs1 := hb1.size
  simp at hs1
  have blk := (hb1.block w.heap.size (by simp)).trans (heap_alloc_last w (.cells #[.bool false] 4) rfl)
  have C2 := Lib.hid (cell_of_block (heap_setCell_same blk 0 (.bool (mayB s k))) 0)
  have c1 := (hb1.cell (p := ⟨w.heap.size, 0, none⟩) (by simp)).trans (cell_of_block (heap_alloc_last w (.cells #[.bool false] 4) rfl) 0)
  have f1 := (hb1.frozen (p := ⟨w.heap.size, 0, none⟩) (by simp)).trans (frozen_of_block (heap_alloc_last w (.cells #[.bool false] 4) rfl) 0)
  simp at c1
  have HB : Hid (Below w.heap.size w w1) := below_upd ((Below.refl _ _).alloc (Nat.le_refl _) _) (Upd.of_below (S := fun _ => False) hb1) (Nat.le_refl _) (fun _ h => h.elim)
  clear hb1 blk
  go_wp2
  refine leaves_cons (f := 71) (args := #[.pointer (some ⟨w.heap.size, 0, none⟩)]) (by simp) (by simp [go_sem]) ?_
  refine (evict_idle _ _).mono ?_
  rintro e u' w'' ⟨rfl, rfl, rfl⟩
  simp [Leaves, settle, results, Try.results70, go_sem]
  have c2 := C2.out
  simp at c2
  rw [c2]
  exact ⟨_, rfl, rfl, HB.out.setCell (p := ⟨w.heap.size, 0, none⟩) (Nat.le_refl _) _⟩
end Go.Proofs.Ytmgcekpfnkcmjaa
