/- The index: Put out of range. -/
import Derived.Test.YtmgcekpfnkcmjaaIndex2
namespace Go.Proofs.Ytmgcekpfnkcmjaa
open Go Go.RowKit

set_option maxRecDepth 100000 in
set_option maxHeartbeats 2000000 in
theorem put_out {w : World} {b mb N : Nat} {v : Value} {ps : List (Int × Bool)} {slots : Nat} (h : IndexAt w b v mb N ps slots) (k s : Int) (d : Bool) (ho : k < 0 ∨ (ps.length : Int) ≤ k ∨ s < 0 ∨ (slots : Int) ≤ s) :
    Calls Try.prog 26 #[.pointer (some ⟨b, 0, none⟩), .int .i64 k, placeV s d] w fun e w' => e = .returned (.tuple #[placeV 0 false, .int .i64 10]) ∧ Below w.heap.size w w' := by
  have hu : Upd (fun _ => False) w ((w.alloc (.cells #[.int .i64 s, .bool d] 36)).alloc (.cells #[.int .i64 0, .bool false] 36)) := ((Upd.refl _ _).alloc _).alloc _
  have hbl := h.blt
  have hle := h.le
  have hsl := h.sl1
  have g0 := (hu.cellAt (o := 0) hbl (fun h => h)).trans (cell_of_block h.str 0)
  have g2 := (hu.cellAt (o := 2) hbl (fun h => h)).trans (cell_of_block h.str 2)
  simp at g0 g2
  obtain ⟨ao, c, rfl⟩ := h.sl.rd.nil_iff
  clear h hu
  have ho' : k < 0 ∨ (¬ k < 0 ∧ (ps.length : Int) ≤ k) ∨ (¬ k < 0 ∧ ¬ (ps.length : Int) ≤ k ∧ s < 0) ∨ (¬ k < 0 ∧ ¬ (ps.length : Int) ≤ k ∧ ¬ s < 0 ∧ (slots : Int) ≤ s) := by omega
  clear ho
  rcases ho' with h1 | ⟨h1, h2⟩ | ⟨h1, h2, h3⟩ | ⟨h1, h2, h3, h4⟩
  case' inr.inl =>
    have d1 : decide (k < 0) = false := by simpa using h1
    have d2 : decide ((ps.length : Int) ≤ k) = true := by simpa using h2
  case' inr.inr.inl =>
    have d1 : decide (k < 0) = false := by simpa using h1
    have d2 : decide ((ps.length : Int) ≤ k) = false := by simpa using h2
    have d3 : decide (s < 0) = true := by simpa using h3
  case' inr.inr.inr =>
    have d1 : decide (k < 0) = false := by simpa using h1
    have d2 : decide ((ps.length : Int) ≤ k) = false := by simpa using h2
    have d3 : decide (s < 0) = false := by simpa using h3
    have d4 : decide ((slots : Int) ≤ s) = true := by simpa using h4
  all_goals
    go_enter Try.func26, Try.ntmps26
    go_wp2
    go_quiet (fail)
    clear g0 g2
    generalize hw3 : (((w.alloc (.cells #[.int .i64 s, .bool d] 36)).alloc (.cells #[.int .i64 0, .bool false] 36)).drewN nq) = w3
    have hb3 : Below w.heap.size w w3 := by rw [← hw3]; exact below_drewN (((Below.refl _ _).alloc (Nat.le_refl _) _).alloc (by simp) _) _
    have hrx : w3.heap[w.heap.size + 1]? = some (.cells #[.int .i64 0, .bool false] 36) := by rw [← hw3]; exact heap_alloc_last _ _ (by simp)
    clear hw3
    obtain ⟨r0, r1, f0, f1⟩ := res_none _ _ hrx
    have Y := Lib.hid (res_same _ _ hrx)
    clear hrx
    go_wp2
    refine bodyPost_ret (v := .tuple #[placeV 0 false, .int .i64 10]) ?_ rfl ⟨rfl, res_below hb3 _ (by omega) _ _⟩
    simp [results, Try.results26, go_sem, Y.out.1, Y.out.2]

end Go.Proofs.Ytmgcekpfnkcmjaa
