/- The law's own check that the code is awake. -/
import Derived.Test.YtolhlfahoooliaaDoorSlots2
namespace Go.Proofs.YtolhlfahoooliaaDoor
open Go Go.RowKit

theorem awake08 (w : World) (ht : Tur w) : Calls Tryd.prog 11 #[] w fun e w' => e = .returned (.bool true) ∧ Below w.heap.size w w' := by
  have hg : 0 < w.heap.size := ht.lt
  have side : ∀ k, ownS (.slice (some ⟨w.heap.size, 0, none⟩) 3 3) k → w.heap.size ≤ k := by intro k hk; simp [ownS, Value.ownBlock] at hk; omega
  have nt : ¬ ownS (.slice (some ⟨w.heap.size, 0, none⟩) 3 3) 0 := fun h => by have := side _ h; omega
  have S := Lib.hid side
  clear side
  go_enter Tryd.func11, Tryd.ntmps11
  go_wp2_with fail
  refine (snew_ok 3 _ (by decide) (by decide)).mono ?_
  rintro e w1 ⟨rfl, h1, hb1, hz1⟩
  have ht1 := ht.below hb1
  clear ht
  go_wp2_with fail
  refine (alloc_any h1).mono ?_
  rintro e w2 ⟨rfl, h2, hu2⟩
  have hb2 := below_upd hb1 hu2 (Nat.le_refl _) S.out
  have ht2 := ht1.keep hu2 nt
  rw [show allocVal (List.replicate 3 0) = 0 from rfl, show allocCode (List.replicate 3 0) = 0 from rfl]
  rw [show allocList (List.replicate 3 0) = [1, 0, 0] from rfl] at h2
  clear hb1 ht1 hu2 h1
  go_wp2_with fail
  refine (turn_any h2 ht2 _ _).mono ?_
  rintro e w3 ⟨rfl, h3, hu3⟩
  have hb3 := below_upd hb2 hu3 (Nat.le_refl _) S.out
  have ht3 := ht2.keep hu3 nt
  rw [show turnCode [1, 0, 0] 0 2 = 0 from rfl]
  rw [show turnList [1, 0, 0] 0 2 = [2, 0, 0] from rfl] at h3
  clear hb2 ht2 hu3 h2
  go_wp2_with fail
  refine (turn_any h3 ht3 _ _).mono ?_
  rintro e w4 ⟨rfl, h4, hu4⟩
  have hb4 := below_upd hb3 hu4 (Nat.le_refl _) S.out
  have ht4 := ht3.keep hu4 nt
  rw [show turnCode [2, 0, 0] 0 0 = 16 from rfl]
  rw [show turnList [2, 0, 0] 0 0 = [2, 0, 0] from rfl] at h4
  clear hb3 ht3 hu4 h3
  go_wp2_with fail
  refine (alloc_any h4).mono ?_
  rintro e w5 ⟨rfl, h5, hu5⟩
  have hb5 := below_upd hb4 hu5 (Nat.le_refl _) S.out
  rw [show allocVal [2, 0, 0] = 1 from rfl, show allocCode [2, 0, 0] = 0 from rfl]
  go_wp2
  go_ret
  exact ⟨rfl, hb5⟩

/-- The table of turns, as a row lists it. -/
theorem gTab : Tryd.prog.globalNamed "lavabo/slots.turns" = some 0 := by kernel_rfl
theorem gTabType : (Tryd.prog.globals[0]?).map (·.type) = some 47 := by kernel_rfl
theorem tabArr : Tryd.prog.underlying 47 = some (.array 5 3) := by kernel_rfl
end Go.Proofs.YtolhlfahoooliaaDoor
