/- The chapter's example. -/
import Derived.Test.YtmgcekpfnkcmjaaDoes09
namespace Go.Proofs.Ytmgcekpfnkcmjaa
open Go Go.RowKit

def aw0 : List (Int × Bool) := List.replicate 10 (-1, false)
def aw1 : List (Int × Bool) := aw0.set 5 (2, true)
def aw2 : List (Int × Bool) := aw1.set 5 (3, false)

set_option maxRecDepth 100000 in
set_option maxHeartbeats 1000000 in
theorem awake09 (w : World) : Calls Try.prog 14 #[] w fun e w' => e = .returned (.bool true) ∧ Below w.heap.size w w' := by
  go_enter Try.func14, Try.ntmps14
  go_wp2_with fail
  refine (inew_ok 10 4 _ (by decide) (by decide) (by decide) (by decide)).mono ?_
  rintro e w1 ⟨b, v, mb, rfl, hI1, hb, hmb, hfv, hB1⟩
  have HS : Hid (∀ j, ixS v mb j → w.heap.size ≤ j) := fun j hj => hj.elim (hfv j) (fun e => e ▸ hmb)
  have hP := put_any hI1 5 2 true (by unfold maxLen; omega)
  rw [show putC (List.replicate 10 (-1, false)) 4 5 2 = 0 by decide, show putV (List.replicate 10 (-1, false)) 4 5 2 = (-1, false) by decide, show putL (List.replicate 10 (-1, false)) 4 5 2 true = aw1 by decide] at hP
  have HP := Lib.hid hP
  clear hI1 hP hfv
  go_wp2_with fail
  refine HP.out.mono ?_
  rintro e w2 ⟨rfl, hI2, hu2⟩
  have hua : Upd (fun _ => False) w2 (w2.alloc (.cells #[.int .i64 (-1), .bool false] 36)) := (Upd.refl _ _).alloc _
  have hB2 := below_upd (below_upd hB1 hu2 (Nat.le_refl _) HS.out) hua (Nat.le_refl _) (fun _ h => h.elim)
  have hP := put_any (hI2.keep hua (fun h => h) (fun _ _ h => h)) 6 2 false (by unfold maxLen; omega)
  rw [show putC aw1 4 6 2 = 15 by decide, show putV aw1 4 6 2 = (0, false) by decide, show putL aw1 4 6 2 false = aw1 by decide] at hP
  have HP2 := Lib.hid hP
  have HA2 := Lib.hid (heap_alloc_last w2 (.cells #[.int .i64 (-1), .bool false] 36) rfl)
  have hz2 : w.heap.size ≤ w2.heap.size := (below_upd hB1 hu2 (Nat.le_refl _) HS.out).size
  have L2 : Hid (∀ j, ixS v mb j → j < w2.heap.size) := hI2.slt
  clear hI2 hu2 hua hP HP
  go_wp2_with fail
  refine HP2.out.mono ?_
  rintro e w3 ⟨rfl, hI3, hu3⟩
  have hub : Upd (fun _ => False) w3 (w3.alloc (.cells #[.int .i64 0, .bool false] 36)) := (Upd.refl _ _).alloc _
  have hB3 := below_upd (below_upd hB2 hu3 (Nat.le_refl _) HS.out) hub (Nat.le_refl _) (fun _ h => h.elim)
  have hu3' := hu3.trans (hub.mono (S' := ixS v mb) (fun _ _ h => h.elim))
  have hA3 := (hu3'.block w2.heap.size (by simp) (fun e => by have := L2.out _ e; omega)).trans HA2.out
  have hP := put_any (hI3.keep hub (fun h => h) (fun _ _ h => h)) 5 3 false (by unfold maxLen; omega)
  rw [show putC aw1 4 5 3 = 0 by decide, show putV aw1 4 5 3 = (2, true) by decide, show putL aw1 4 5 3 false = aw2 by decide] at hP
  have HP3 := Lib.hid hP
  have HA3 := Lib.hid hA3
  have hz3 := hu3.size
  simp at hz3
  clear hI3 hu3 hub hu3' hA3 hP HP2
  go_wp2_with fail
  refine HP3.out.mono ?_
  rintro e w4 ⟨rfl, hI4, hu4⟩
  have huc : Upd (fun _ => False) w4 (w4.alloc (.cells #[.int .i64 2, .bool true] 36)) := (Upd.refl _ _).alloc _
  have hB4 := below_upd (below_upd hB3 hu4 (Nat.le_refl _) HS.out) huc (Nat.le_refl _) (fun _ h => h.elim)
  have hu4' := hu4.trans (huc.mono (S' := ixS v mb) (fun _ _ h => h.elim))
  have hA4 := (hu4'.block w2.heap.size (by simp; omega) (fun e => by have := L2.out _ e; omega)).trans HA3.out
  have hP := at_any (hI4.keep huc (fun h => h) (fun _ _ h => h)) 2
  rw [show atC aw2 4 2 = 14 by decide, show atV aw2 4 2 = 0 by decide] at hP
  have HP4 := Lib.hid hP
  have a0 := cell_of_block hA4 0
  have a1 := cell_of_block hA4 1
  have hC4 := heap_alloc_last w4 (.cells #[.int .i64 2, .bool true] 36) rfl
  have b0 := cell_of_block hC4 0
  have b1 := cell_of_block hC4 1
  simp at a0 a1 b0 b1
  clear hI4 hu4 huc hu4' hA4 hP HP3 hC4
  go_wp2_with fail
  refine HP4.out.mono ?_
  rintro e w5 ⟨rfl, rfl⟩
  go_wp2
  go_ret
  exact ⟨rfl, hB4⟩
end Go.Proofs.Ytmgcekpfnkcmjaa
