/- The document's answer, at a clock that is empty: each call's run. -/
import Derived.Test.YtmgcekpfnkcmjaaClock2
namespace Go.Proofs.Ytmgcekpfnkcmjaa
open Go Go.RowKit

/-- An empty clock of the document's. -/
def RfAt (w : World) (b : Nat) : Prop := w.heap[b]? = some (.cells #[.slice none 0 0, .int .i64 0, .slice none 0 0, .int .i64 12, .int .i64 6] 68 (0, 0))
theorem RfAt.keep {w w' : World} {b : Nat} (h : RfAt w b) {S : Nat → Prop} (hu : Upd S w w') (hs : ¬ S b) : RfAt w' b := (hu.block b (lt_of_block h) hs).trans h
theorem RfAt.c {w : World} {b : Nat} (h : RfAt w b) : w.cell? ⟨b, 0, none⟩ = some (.slice none 0 0) ∧ w.cell? ⟨b, 1, none⟩ = some (.int .i64 0) ∧ w.cell? ⟨b, 2, none⟩ = some (.slice none 0 0) ∧ w.cell? ⟨b, 3, none⟩ = some (.int .i64 12) ∧
    (∀ i, w.frozen? ⟨b, i, none⟩ = false) := by
  refine ⟨?_, ?_, ?_, ?_, frozen_of_block h⟩ <;> rw [cell_of_block h] <;> rfl

theorem rfind {w : World} {b : Nat} (h : RfAt w b) (k : Int) : Calls Try.prog 87 #[.pointer (some ⟨b, 0, none⟩), .int .i64 k] w fun e w' => e = .returned (.int .i64 (-1)) ∧ w' = w := by
  obtain ⟨c0, -, -, -, -⟩ := h.c
  clear h
  go_enter Try.func87, Try.ntmps87
  go_wp2
  go_loopg [5] 0 (fun g i wr => g = 0 ∧ i = .int .i64 0 ∧ wr = w)
  case atStart => exact ⟨rfl, rfl, rfl⟩
  case round =>
    obtain ⟨_, rfl, rfl⟩ := hrel
    go_wp2
    go_ret
    exact ⟨rfl, rfl⟩
theorem rghost {w : World} {b : Nat} (h : RfAt w b) (k : Int) : Calls Try.prog 88 #[.pointer (some ⟨b, 0, none⟩), .int .i64 k] w fun e w' => e = .returned (.int .i64 (-1)) ∧ w' = w := by
  obtain ⟨-, -, c2, -, -⟩ := h.c
  clear h
  go_enter Try.func88, Try.ntmps88
  go_wp2
  go_loopg [5] 0 (fun g i wr => g = 0 ∧ i = .int .i64 0 ∧ wr = w)
  case atStart => exact ⟨rfl, rfl, rfl⟩
  case round =>
    obtain ⟨_, rfl, rfl⟩ := hrel
    go_wp2
    go_ret
    exact ⟨rfl, rfl⟩
theorem rtouch {w : World} {b : Nat} (h : RfAt w b) (k : Int) : Calls Try.prog 64 #[.pointer (some ⟨b, 0, none⟩), .int .i64 k] w fun e w' => e = .returned (.int .i64 14) ∧ w' = w := by
  go_enter Try.func64, Try.ntmps64
  go_wp2_with fail
  refine (rfind h k).mono ?_
  rintro e w' ⟨rfl, rfl⟩
  go_wp2
  go_ret
  exact ⟨rfl, rfl⟩
theorem rdrop {w : World} {b : Nat} (h : RfAt w b) (k : Int) : Calls Try.prog 65 #[.pointer (some ⟨b, 0, none⟩), .int .i64 k] w fun e w' => e = .returned (.int .i64 14) ∧ w' = w := by
  go_enter Try.func65, Try.ntmps65
  go_wp2_with fail
  refine (rfind h k).mono ?_
  rintro e w' ⟨rfl, rfl⟩
  go_wp2
  go_ret
  exact ⟨rfl, rfl⟩
set_option maxRecDepth 100000 in
theorem revict {w : World} {b : Nat} (h : RfAt w b) (k : Int) : Calls Try.prog 66 #[.pointer (some ⟨b, 0, none⟩), .int .i64 k] w fun e w' => e = .returned (.tuple #[.int .i64 0, .int .i64 14]) ∧ w' = w := by
  obtain ⟨c0, -, -, -, -⟩ := h.c
  clear h
  go_enter Try.func66, Try.ntmps66
  go_wp2
  go_loopg [6] 0 (fun g i wr => g = 0 ∧ i = .int .i64 0 ∧ wr = w)
  case atStart => exact ⟨rfl, rfl, rfl⟩
  case round =>
    obtain ⟨_, rfl, rfl⟩ := hrel
    go_wp2
    go_ret2
    exact ⟨rfl, rfl⟩

theorem infoK7 : (Try.prog.info? 142).map (fun i => (i.zero, i.size, i.bytes)) = some (some (.agg #[.int .i64 0, .bool false]), 2, 16) := by kernel_rfl
theorem append_nil_nil (w : World) : (Builtin.append_ #[66, 66] 66 #[.slice none 0 0, .slice none 0 0]).run Try.prog w = .ok (.slice none 0 0) w := by
  obtain ⟨i0, hi, hz0, hz1, hz2⟩ := info_parts infoK7
  simp [Builtin.append_, run_underlying Try.underlying66, sizeOf, typeInfo, hi, Builtin.lenOf, Builtin.firstCells]
theorem append_one_nil (w : World) (a : Addr) (c : Nat) (hc : 1 ≤ c) : (Builtin.append_ #[66, 66] 66 #[.slice (some a) 1 c, .slice none 0 0]).run Try.prog w = .ok (.slice (some a) 1 c) w := by
  obtain ⟨i0, hi, hz0, hz1, hz2⟩ := info_parts infoK7
  simp [Builtin.append_, run_underlying Try.underlying66, sizeOf, typeInfo, hi, Builtin.lenOf, Builtin.firstCells, hc, storeCells]

set_option maxRecDepth 100000 in
set_option maxHeartbeats 1000000 in
theorem radd {w : World} {b : Nat} (h : RfAt w b) (k : Int) : Calls Try.prog 63 #[.pointer (some ⟨b, 0, none⟩), .int .i64 k] w fun e w' => e = .returned (.int .i64 0) ∧ Upd (fun j => j = b) w w' := by
  obtain ⟨i0, hi, hz0, hz1, hz2⟩ := info_parts infoK7
  have H := Lib.hid h
  obtain ⟨c0, c1, c2, c3, f⟩ := h.c
  have hann := append_nil_nil
  clear h
  go_enter Try.func63, Try.ntmps63
  go_wp2_with fail
  refine (rfind H.out k).mono ?_
  rintro e w1 ⟨rfl, rfl⟩
  go_wp2
  go_quiet (fail)
  generalize hw2 : w1.drewN nq = w2
  have hu2 : Upd (fun _ => False) w1 w2 := by rw [← hw2]; exact (Upd.refl _ _).drewN _
  have H2 := Lib.hid (H.out.keep hu2 (fun h => h))
  have HU2 := Lib.hid hu2
  clear hw2 hu2 c0 c1 c2 c3 f
  go_wp2_with fail
  refine (rghost H2.out k).mono ?_
  rintro e w3 ⟨rfl, rfl⟩
  obtain ⟨c0, c1, c2, c3, f⟩ := H2.out.c
  go_wp2
  go_region
  have hwd : Hid (Upd (fun _ => False) w3 w3.drew) := (Upd.refl _ _).drew
  have H3 := Lib.hid (H2.out.keep hwd.out (fun h => h))
  have HU3 := Lib.hid (HU2.out.trans hwd.out)
  generalize w3.drew = w4 at *
  clear c0 c1 c2 c3 f hwd
  have hone : Hid (∀ u ∈ [Value.int .i64 k, .bool false], u.oneCell' = true) := by intro u hu; simp at hu; rcases hu with rfl | rfl <;> rfl
  go_wp2_with (at_builtin; refine wpList_append_one rfl (.tmp 58) (.tmp 63) 66 rfl i0 (.agg #[.int .i64 0, .bool false]) 16 Try.underlying66 hi hz0 hz1 hz2 rfl (by decide) rfl (Sl.nil w4 142 2) [.int .i64 k, .bool false] rfl rfl hone.out (by unfold maxLen; omega) (by omega) ?_)
  intro v5 w5 hs5 hu5 hbf5
  obtain ⟨_, ⟨h1, h2⟩ | ⟨g5, o5, c5, cur5, rfl, hg5, hn5, _⟩⟩ := hs5
  · omega
  have hap := fun w => append_one_nil w ⟨g5, o5, none⟩ c5 hn5
  have hu5' : Upd (fun _ => False) w4 w5 := hu5.mono (fun j _ h => by simp [ownS, Value.ownBlock] at h)
  have H5 := H3.out.keep hu5' (fun h => h)
  have HU5 := Lib.hid (HU3.out.trans hu5')
  obtain ⟨c0, c1, c2, c3, f⟩ := H5.c
  have H5 := Lib.hid H5
  clear hu5 hu5' hbf5 hg5
  go_wp2
  go_region
  go_wp2_with fail
  have hb6 : (w5.setCell ⟨b, 0, none⟩ (.slice (some ⟨g5, o5, none⟩) 1 c5)).drew.heap[b]? = _ := heap_setCell_same (w := w5) H5.out 0 (.slice (some ⟨g5, o5, none⟩) 1 c5)
  have hu6 : Upd (fun j => j = b) w1 (w5.setCell ⟨b, 0, none⟩ (.slice (some ⟨g5, o5, none⟩) 1 c5)).drew := ((HU5.out.mono (fun _ _ h => h.elim)).trans (upd_setCell _ _ _ _)).drew
  have HU6 := Lib.hid hu6
  clear c0 c1 c2 c3 f hu6
  generalize (w5.setCell ⟨b, 0, none⟩ (.slice (some ⟨g5, o5, none⟩) 1 c5)).drew = w6 at *
  have c0 := cell_of_block hb6 0
  have c1 := cell_of_block hb6 1
  have f := frozen_of_block hb6
  simp at c0 c1
  clear hb6
  go_region
  go_wp2
  go_ret
  exact ⟨rfl, (HU6.out.trans (upd_setCell _ _ _ _)).drew⟩
end Go.Proofs.Ytmgcekpfnkcmjaa
