/- A superblock that may not be: Plan tells so. -/
import Derived.Test.YtnadilfobmgebaaGreatDoorG03
namespace Go.Proofs.YtnadilfobmgebaaGreatDoor
open Go Go.RowKit
theorem in_no (n f t : Int) (h : ¬ (f ≤ n ∧ n ≤ t)) (w : World) : Calls Tryz.prog 83 #[.int .i64 n, .int .i64 f, .int .i64 t] w fun e w' => e = .returned (.bool false) ∧ w = w' := by
  by_cases h1 : f ≤ n
  · have q1 : decide (f ≤ n) = true := by simpa using h1
    have q2 : decide (n ≤ t) = false := by simp; omega
    go_enter Tryz.func83, Tryz.ntmps83
    go_wp2
    go_ret
    exact ⟨by simp, rfl⟩
  · have q1 : decide (f ≤ n) = false := by simpa using h1
    go_enter Tryz.func83, Tryz.ntmps83
    go_wp2
    go_ret
    exact ⟨by simp, rfl⟩
abbrev zLay : Value := .agg #[.int .i64 0, .int .i64 0, .int .i64 0, .int .i64 0, .int .i64 0, .int .i64 0, .int .i64 0]
def PlanBad (w : World) (e : Ending) (w' : World) : Prop := e = .returned (.tuple #[zLay, .int .i64 24]) ∧ Below w.heap.size w w'
set_option maxRecDepth 100000 in
set_option maxHeartbeats 2000000 in
theorem plan_no1 (id bl sl jo pa lo ba : Int) (hn : ¬ (1 ≤ bl ∧ bl ≤ 4096)) (w : World) :
    Calls Tryz.prog 34 #[.agg (superC id bl sl jo pa lo ba).toArray] w (PlanBad w) := by
  obtain ⟨w1, hw1⟩ : ∃ w1, w1 = (w.alloc (.cells (superC id bl sl jo pa lo ba).toArray 34)).alloc (.cells #[.int .i64 0, .int .i64 0, .int .i64 0, .int .i64 0, .int .i64 0, .int .i64 0, .int .i64 0] 82) := ⟨_, rfl⟩
  have g0 : w1.heap[w.heap.size]? = some (.cells (superC id bl sl jo pa lo ba).toArray 34 (0, 0)) := by rw [hw1]; exact (Below.heap_alloc _ _ _ (by simp)).trans (heap_alloc_last w _ rfl)
  have g1 : w1.heap[w.heap.size + 1]? = some (.cells #[.int .i64 0, .int .i64 0, .int .i64 0, .int .i64 0, .int .i64 0, .int .i64 0, .int .i64 0] 82 (0, 0)) := by rw [hw1]; exact heap_alloc_last _ _ (by simp)
  have hb1 : Below w.heap.size w w1 := by rw [hw1]; exact ((Below.refl _ w).alloc (Nat.le_refl _) _).alloc (by simp) _
  have k1 : w1.cell? ⟨w.heap.size, 1, none⟩ = some (.int .i64 bl) := cell_of_block g0 1
  have k2 : w1.cell? ⟨w.heap.size, 2, none⟩ = some (.int .i64 sl) := cell_of_block g0 2
  have k3 : w1.cell? ⟨w.heap.size, 3, none⟩ = some (.int .i64 jo) := cell_of_block g0 3
  have k4 : w1.cell? ⟨w.heap.size, 4, none⟩ = some (.int .i64 pa) := cell_of_block g0 4
  have k5 : w1.cell? ⟨w.heap.size, 5, none⟩ = some (.int .i64 lo) := cell_of_block g0 5
  have k6 : w1.cell? ⟨w.heap.size, 6, none⟩ = some (.int .i64 ba) := cell_of_block g0 6
  have HG := Lib.hid (And.intro g1 hb1)
  have HW := Lib.hid hw1
  clear g0 g1 hb1 hw1
  go_enter Tryz.func34, Tryz.ntmps34
  go_upto_region 2 with fail
  rw [← HW.out]
  refine wp_region_held_drew (S := fun W => W.cell? ⟨w.heap.size, 1, none⟩ = some (.int .i64 bl) ∧ W.cell? ⟨w.heap.size, 2, none⟩ = some (.int .i64 sl) ∧ W.cell? ⟨w.heap.size, 3, none⟩ = some (.int .i64 jo) ∧ W.cell? ⟨w.heap.size, 4, none⟩ = some (.int .i64 pa) ∧ W.cell? ⟨w.heap.size, 5, none⟩ = some (.int .i64 lo) ∧ W.cell? ⟨w.heap.size, 6, none⟩ = some (.int .i64 ba)) (by kernel_rfl) (by (simp only [World.cell?_drew]); exact ⟨k1, k2, k3, k4, k5, k6⟩) (fun hHeld => ?_)
  refine tk (i := 0) (v := ?_) rfl ?_ hHeld ?_
  rotate_left
  · intro W hSw; (try dsimp only at hSw); (try go_split_ands); go_simp; (try with_reducible rfl)
  simp only [List.getElem_toArray, List.getElem_cons_zero, Act.put, List.setIfInBounds_toArray, List.set_cons_zero, List.set_cons_succ]
  refine tk (i := 1) (v := ?_) rfl ?_ hHeld ?_
  rotate_left
  · intro W hSw; (try dsimp only at hSw); (try go_split_ands); go_simp; (try with_reducible rfl)
  simp only [List.getElem_toArray, List.getElem_cons_succ, List.getElem_cons_zero, Act.put, List.setIfInBounds_toArray, List.set_cons_zero, List.set_cons_succ]
  refine tk (i := 2) (v := ?_) rfl ?_ hHeld ?_
  rotate_left
  · intro W hSw; (try dsimp only at hSw); (try go_split_ands); go_simp; (try with_reducible rfl)
  simp only [List.getElem_toArray, List.getElem_cons_succ, List.getElem_cons_zero, Act.put, List.setIfInBounds_toArray, List.set_cons_zero, List.set_cons_succ]
  refine wpAnyH_ready (rs := [3]) (by kernel_rfl) (by simp) ?_
  refine AllReadyH.cons rfl (fun K hK => ?_) AllReadyH.nil
  go_simp
  refine (in_no _ _ _ hn _).mono ?_
  rintro e w' ⟨rfl, rfl⟩
  refine hK.out _ _ (hHeld) (fun hH1 => ?_)
  clear hK K
  refine tk (i := 4) (v := ?_) rfl ?_ hH1 ?_
  rotate_left
  · intro W hSw; (try dsimp only at hSw); (try go_split_ands); go_simp; (try with_reducible rfl)
  simp only [List.getElem_toArray, List.getElem_cons_succ, List.getElem_cons_zero, Act.put, List.setIfInBounds_toArray, List.set_cons_zero, List.set_cons_succ]
  refine tk (i := 5) (v := ?_) rfl ?_ hH1 ?_
  rotate_left
  · intro W hSw; (try dsimp only at hSw); (try go_split_ands); go_simp; (try with_reducible rfl)
  simp only [List.getElem_toArray, List.getElem_cons_succ, List.getElem_cons_zero, Act.put, List.setIfInBounds_toArray, List.set_cons_zero, List.set_cons_succ]
  refine' wpAnyH_take (i := 6) rfl (by kernel_rfl) (by kernel_rfl) (by kernel_rfl) (fun _ _ _ h => h) (Or.inr ⟨by rfl, rfl⟩) hH1 _
  simp only [List.getElem_toArray, List.getElem_cons_succ, List.getElem_cons_zero, Act.put, List.setIfInBounds_toArray, List.set_cons_zero, List.set_cons_succ]
  refine' wpAnyH_take (i := 7) rfl (by kernel_rfl) (by kernel_rfl) (by kernel_rfl) (fun _ _ _ h => h) (Or.inr ⟨by rfl, rfl⟩) hH1 _
  simp only [List.getElem_toArray, List.getElem_cons_succ, List.getElem_cons_zero, Act.put, List.setIfInBounds_toArray, List.set_cons_zero, List.set_cons_succ]
  refine' wpAnyH_take (i := 8) rfl (by kernel_rfl) (by kernel_rfl) (by kernel_rfl) (fun _ _ _ h => h) (Or.inr ⟨by rfl, rfl⟩) hH1 _
  simp only [List.getElem_toArray, List.getElem_cons_succ, List.getElem_cons_zero, Act.put, List.setIfInBounds_toArray, List.set_cons_zero, List.set_cons_succ]
  refine' wpAnyH_take (i := 9) rfl (by kernel_rfl) (by kernel_rfl) (by kernel_rfl) (fun _ _ _ h => h) (Or.inr ⟨by rfl, rfl⟩) hH1 _
  simp only [List.getElem_toArray, List.getElem_cons_succ, List.getElem_cons_zero, Act.put, List.setIfInBounds_toArray, List.set_cons_zero, List.set_cons_succ]
  refine' wpAnyH_take (i := 10) rfl (by kernel_rfl) (by kernel_rfl) (by kernel_rfl) (fun _ _ _ h => h) (Or.inr ⟨by rfl, rfl⟩) hH1 _
  simp only [List.getElem_toArray, List.getElem_cons_succ, List.getElem_cons_zero, Act.put, List.setIfInBounds_toArray, List.set_cons_zero, List.set_cons_succ]
  refine wpAnyH_ready (rs := [11]) (by kernel_rfl) (by simp) ?_
  refine AllReadyH.cons rfl (fun K hK => ?_) AllReadyH.nil
  go_simp
  refine hK.out _ _ (hH1) (fun hH2 => ?_)
  clear hK K
  refine tk (i := 12) (v := ?_) rfl ?_ hH2 ?_
  rotate_left
  · intro W hSw; (try dsimp only at hSw); (try go_split_ands); go_simp; (try with_reducible rfl)
  simp only [List.getElem_toArray, List.getElem_cons_succ, List.getElem_cons_zero, Act.put, List.setIfInBounds_toArray, List.set_cons_zero, List.set_cons_succ]
  refine' wpAnyH_take (i := 13) rfl (by kernel_rfl) (by kernel_rfl) (by kernel_rfl) (fun _ _ _ h => h) (Or.inr ⟨by rfl, rfl⟩) hH2 _
  simp only [List.getElem_toArray, List.getElem_cons_succ, List.getElem_cons_zero, Act.put, List.setIfInBounds_toArray, List.set_cons_zero, List.set_cons_succ]
  refine' wpAnyH_take (i := 14) rfl (by kernel_rfl) (by kernel_rfl) (by kernel_rfl) (fun _ _ _ h => h) (Or.inr ⟨by rfl, rfl⟩) hH2 _
  simp only [List.getElem_toArray, List.getElem_cons_succ, List.getElem_cons_zero, Act.put, List.setIfInBounds_toArray, List.set_cons_zero, List.set_cons_succ]
  refine' wpAnyH_take (i := 15) rfl (by kernel_rfl) (by kernel_rfl) (by kernel_rfl) (fun _ _ _ h => h) (Or.inr ⟨by rfl, rfl⟩) hH2 _
  simp only [List.getElem_toArray, List.getElem_cons_succ, List.getElem_cons_zero, Act.put, List.setIfInBounds_toArray, List.set_cons_zero, List.set_cons_succ]
  refine' wpAnyH_take (i := 16) rfl (by kernel_rfl) (by kernel_rfl) (by kernel_rfl) (fun _ _ _ h => h) (Or.inr ⟨by rfl, rfl⟩) hH2 _
  simp only [List.getElem_toArray, List.getElem_cons_succ, List.getElem_cons_zero, Act.put, List.setIfInBounds_toArray, List.set_cons_zero, List.set_cons_succ]
  refine' wpAnyH_take (i := 17) rfl (by kernel_rfl) (by kernel_rfl) (by kernel_rfl) (fun _ _ _ h => h) (Or.inr ⟨by rfl, rfl⟩) hH2 _
  simp only [List.getElem_toArray, List.getElem_cons_succ, List.getElem_cons_zero, Act.put, List.setIfInBounds_toArray, List.set_cons_zero, List.set_cons_succ]
  refine wpAnyH_ready (rs := [18]) (by kernel_rfl) (by simp) ?_
  refine AllReadyH.cons rfl (fun K hK => ?_) AllReadyH.nil
  go_simp
  refine hK.out _ _ (hH2) (fun hH3 => ?_)
  clear hK K
  refine tk (i := 19) (v := ?_) rfl ?_ hH3 ?_
  rotate_left
  · intro W hSw; (try dsimp only at hSw); (try go_split_ands); go_simp; (try with_reducible rfl)
  simp only [List.getElem_toArray, List.getElem_cons_succ, List.getElem_cons_zero, Act.put, List.setIfInBounds_toArray, List.set_cons_zero, List.set_cons_succ]
  refine' wpAnyH_take (i := 20) rfl (by kernel_rfl) (by kernel_rfl) (by kernel_rfl) (fun _ _ _ h => h) (Or.inr ⟨by rfl, rfl⟩) hH3 _
  simp only [List.getElem_toArray, List.getElem_cons_succ, List.getElem_cons_zero, Act.put, List.setIfInBounds_toArray, List.set_cons_zero, List.set_cons_succ]
  refine' wpAnyH_take (i := 21) rfl (by kernel_rfl) (by kernel_rfl) (by kernel_rfl) (fun _ _ _ h => h) (Or.inr ⟨by rfl, rfl⟩) hH3 _
  simp only [List.getElem_toArray, List.getElem_cons_succ, List.getElem_cons_zero, Act.put, List.setIfInBounds_toArray, List.set_cons_zero, List.set_cons_succ]
  refine' wpAnyH_take (i := 22) rfl (by kernel_rfl) (by kernel_rfl) (by kernel_rfl) (fun _ _ _ h => h) (Or.inr ⟨by rfl, rfl⟩) hH3 _
  simp only [List.getElem_toArray, List.getElem_cons_succ, List.getElem_cons_zero, Act.put, List.setIfInBounds_toArray, List.set_cons_zero, List.set_cons_succ]
  refine' wpAnyH_take (i := 23) rfl (by kernel_rfl) (by kernel_rfl) (by kernel_rfl) (fun _ _ _ h => h) (Or.inr ⟨by rfl, rfl⟩) hH3 _
  simp only [List.getElem_toArray, List.getElem_cons_succ, List.getElem_cons_zero, Act.put, List.setIfInBounds_toArray, List.set_cons_zero, List.set_cons_succ]
  refine' wpAnyH_take (i := 24) rfl (by kernel_rfl) (by kernel_rfl) (by kernel_rfl) (fun _ _ _ h => h) (Or.inr ⟨by rfl, rfl⟩) hH3 _
  simp only [List.getElem_toArray, List.getElem_cons_succ, List.getElem_cons_zero, Act.put, List.setIfInBounds_toArray, List.set_cons_zero, List.set_cons_succ]
  refine wpAnyH_ready (rs := [25]) (by kernel_rfl) (by simp) ?_
  refine AllReadyH.cons rfl (fun K hK => ?_) AllReadyH.nil
  go_simp
  refine hK.out _ _ (hH3) (fun hH4 => ?_)
  clear hK K
  refine tk (i := 26) (v := ?_) rfl ?_ hH4 ?_
  rotate_left
  · intro W hSw; (try dsimp only at hSw); (try go_split_ands); go_simp; (try with_reducible rfl)
  simp only [List.getElem_toArray, List.getElem_cons_succ, List.getElem_cons_zero, Act.put, List.setIfInBounds_toArray, List.set_cons_zero, List.set_cons_succ]
  refine' wpAnyH_take (i := 27) rfl (by kernel_rfl) (by kernel_rfl) (by kernel_rfl) (fun _ _ _ h => h) (Or.inr ⟨by rfl, rfl⟩) hH4 _
  simp only [List.getElem_toArray, List.getElem_cons_succ, List.getElem_cons_zero, Act.put, List.setIfInBounds_toArray, List.set_cons_zero, List.set_cons_succ]
  refine' wpAnyH_take (i := 28) rfl (by kernel_rfl) (by kernel_rfl) (by kernel_rfl) (fun _ _ _ h => h) (Or.inr ⟨by rfl, rfl⟩) hH4 _
  simp only [List.getElem_toArray, List.getElem_cons_succ, List.getElem_cons_zero, Act.put, List.setIfInBounds_toArray, List.set_cons_zero, List.set_cons_succ]
  refine' wpAnyH_take (i := 29) rfl (by kernel_rfl) (by kernel_rfl) (by kernel_rfl) (fun _ _ _ h => h) (Or.inr ⟨by rfl, rfl⟩) hH4 _
  simp only [List.getElem_toArray, List.getElem_cons_succ, List.getElem_cons_zero, Act.put, List.setIfInBounds_toArray, List.set_cons_zero, List.set_cons_succ]
  refine' wpAnyH_take (i := 30) rfl (by kernel_rfl) (by kernel_rfl) (by kernel_rfl) (fun _ _ _ h => h) (Or.inr ⟨by rfl, rfl⟩) hH4 _
  simp only [List.getElem_toArray, List.getElem_cons_succ, List.getElem_cons_zero, Act.put, List.setIfInBounds_toArray, List.set_cons_zero, List.set_cons_succ]
  refine' wpAnyH_take (i := 31) rfl (by kernel_rfl) (by kernel_rfl) (by kernel_rfl) (fun _ _ _ h => h) (Or.inr ⟨by rfl, rfl⟩) hH4 _
  simp only [List.getElem_toArray, List.getElem_cons_succ, List.getElem_cons_zero, Act.put, List.setIfInBounds_toArray, List.set_cons_zero, List.set_cons_succ]
  refine wpAnyH_ready (rs := [32]) (by kernel_rfl) (by simp) ?_
  refine AllReadyH.cons rfl (fun K hK => ?_) AllReadyH.nil
  go_simp
  refine hK.out _ _ (hH4) (fun hH5 => ?_)
  clear hK K
  refine tk (i := 33) (v := ?_) rfl ?_ hH5 ?_
  rotate_left
  · intro W hSw; (try dsimp only at hSw); (try go_split_ands); go_simp; (try with_reducible rfl)
  simp only [List.getElem_toArray, List.getElem_cons_succ, List.getElem_cons_zero, Act.put, List.setIfInBounds_toArray, List.set_cons_zero, List.set_cons_succ]
  refine' wpAnyH_take (i := 34) rfl (by kernel_rfl) (by kernel_rfl) (by kernel_rfl) (fun _ _ _ h => h) (Or.inr ⟨by rfl, rfl⟩) hH5 _
  simp only [List.getElem_toArray, List.getElem_cons_succ, List.getElem_cons_zero, Act.put, List.setIfInBounds_toArray, List.set_cons_zero, List.set_cons_succ]
  refine' wpAnyH_take (i := 35) rfl (by kernel_rfl) (by kernel_rfl) (by kernel_rfl) (fun _ _ _ h => h) (Or.inr ⟨by rfl, rfl⟩) hH5 _
  simp only [List.getElem_toArray, List.getElem_cons_succ, List.getElem_cons_zero, Act.put, List.setIfInBounds_toArray, List.set_cons_zero, List.set_cons_succ]
  refine' wpAnyH_take (i := 36) rfl (by kernel_rfl) (by kernel_rfl) (by kernel_rfl) (fun _ _ _ h => h) (Or.inr ⟨by rfl, rfl⟩) hH5 _
  simp only [List.getElem_toArray, List.getElem_cons_succ, List.getElem_cons_zero, Act.put, List.setIfInBounds_toArray, List.set_cons_zero, List.set_cons_succ]
  refine' wpAnyH_take (i := 37) rfl (by kernel_rfl) (by kernel_rfl) (by kernel_rfl) (fun _ _ _ h => h) (Or.inr ⟨by rfl, rfl⟩) hH5 _
  simp only [List.getElem_toArray, List.getElem_cons_succ, List.getElem_cons_zero, Act.put, List.setIfInBounds_toArray, List.set_cons_zero, List.set_cons_succ]
  refine' wpAnyH_take (i := 38) rfl (by kernel_rfl) (by kernel_rfl) (by kernel_rfl) (fun _ _ _ h => h) (Or.inr ⟨by rfl, rfl⟩) hH5 _
  simp only [List.getElem_toArray, List.getElem_cons_succ, List.getElem_cons_zero, Act.put, List.setIfInBounds_toArray, List.set_cons_zero, List.set_cons_succ]
  refine' wpAnyH_take (i := 39) rfl (by kernel_rfl) (by kernel_rfl) (by kernel_rfl) (fun _ _ _ h => h) (Or.inr ⟨by rfl, rfl⟩) hH5 _
  simp only [List.getElem_toArray, List.getElem_cons_succ, List.getElem_cons_zero, Act.put, List.setIfInBounds_toArray, List.set_cons_zero, List.set_cons_succ]
  refine' wpAnyH_take (i := 40) rfl (by kernel_rfl) (by kernel_rfl) (by kernel_rfl) (fun _ _ _ h => h) (Or.inr ⟨by rfl, rfl⟩) hH5 _
  simp only [List.getElem_toArray, List.getElem_cons_succ, List.getElem_cons_zero, Act.put, List.setIfInBounds_toArray, List.set_cons_zero, List.set_cons_succ]
  refine' wpAnyH_take (i := 41) rfl (by kernel_rfl) (by kernel_rfl) (by kernel_rfl) (fun _ _ _ h => h) (Or.inr ⟨by rfl, rfl⟩) hH5 _
  simp only [List.getElem_toArray, List.getElem_cons_succ, List.getElem_cons_zero, Act.put, List.setIfInBounds_toArray, List.set_cons_zero, List.set_cons_succ]
  refine wpAnyH_ready (rs := [42]) (by kernel_rfl) (by simp) ?_
  refine AllReadyH.cons rfl (fun K hK => ?_) AllReadyH.nil
  go_simp
  refine hK.out _ _ (hH5) (fun hH6 => ?_)
  clear hK K
  refine wpAnyH_done (by kernel_rfl) ?_ _
  obtain ⟨g1, hb1⟩ := HG.out
  have hud := (Upd.refl (fun _ => False) w1).drew
  have g2 := hud.blockv g1
  have hb2 : Below w.heap.size w w1.drew := hb1.drew
  generalize w1.drew = w2 at *
  have hth : w2.there (w.heap.size + 1) 0 7 := fun j hj => by
    rw [cell_of_block g2, frozen_of_block g2, Nat.zero_add]
    exact ⟨by rw [Array.getElem?_eq_getElem (by simpa using hj)]; rfl, rfl⟩
  have HB := Lib.hid hb2
  clear g1 hb1 g2 hb2 hud hHeld hH1 hH2 hH3 hH4 hH5 hH6 k1 k2 k3 k4 k5 k6 HG HW
  obtain ⟨L, hL⟩ : ∃ L : List Value, L = [.int .i64 0, .int .i64 0, .int .i64 0, .int .i64 0, .int .i64 0, .int .i64 0, .int .i64 0] := ⟨_, rfl⟩
  have h7 : L.length = 7 := by rw [hL]; rfl
  have hsz : L.toArray.size = 7 := by rw [hL]; rfl
  have hi : (Tryz.prog.info? 82).map (·.size) = some L.length := by rw [h7]; exact infoLay
  have hi2 : (Tryz.prog.info? 82).map (·.size) = some L.toArray.size := by rw [hsz]; exact infoLay
  have ho1 : L.toArray.all (·.oneCell') = true := all_oneCell_toArray (by intro v hv; rw [hL] at hv; simp at hv; subst hv; rfl)
  have hth3 : w2.there (w.heap.size + 1) 0 L.toArray.size := by rw [hsz]; exact hth
  have hth4 : w2.there (w.heap.size + 1) 0 L.length := by rw [h7]; exact hth
  replace hL := Lib.hid hL
  have HF := Lib.hid (And.intro hi (And.intro hi2 (And.intro ho1 (And.intro hth3 hth4))))
  clear h7 hi hi2 ho1 hth3 hth4 hth hsz
  go_wp2_with (first
    | (refine wpList_store_mid rfl _ _ _ rfl (w.heap.size + 1) 0 L.toArray rfl (by rw [hL.out]; rfl) HF.out.2.2.2.1 HF.out.2.1 HF.out.2.2.1 ?_)
    | fail)
  refine bodyPost_ret (results_mid2 rfl _ _ (w.heap.size + 1) 0 L _ rfl (World.rangeAt_setCells_same _ _ _ _ HF.out.2.2.2.2) Tryz.underlying82 rfl HF.out.1) rfl ⟨by rw [hL.out]; rfl, below_upd HB.out (upd_row _ (w.heap.size + 1) 0 _) (Nat.le_refl _) (fun k h => by omega)⟩
set_option maxRecDepth 100000 in
set_option maxHeartbeats 2000000 in
theorem plan_no2 (id bl sl jo pa lo ba : Int) (h1 : 1 ≤ bl ∧ bl ≤ 4096) (hn : ¬ (1 ≤ sl ∧ sl ≤ 1024)) (w : World) :
    Calls Tryz.prog 34 #[.agg (superC id bl sl jo pa lo ba).toArray] w (PlanBad w) := by
  obtain ⟨w1, hw1⟩ : ∃ w1, w1 = (w.alloc (.cells (superC id bl sl jo pa lo ba).toArray 34)).alloc (.cells #[.int .i64 0, .int .i64 0, .int .i64 0, .int .i64 0, .int .i64 0, .int .i64 0, .int .i64 0] 82) := ⟨_, rfl⟩
  have g0 : w1.heap[w.heap.size]? = some (.cells (superC id bl sl jo pa lo ba).toArray 34 (0, 0)) := by rw [hw1]; exact (Below.heap_alloc _ _ _ (by simp)).trans (heap_alloc_last w _ rfl)
  have g1 : w1.heap[w.heap.size + 1]? = some (.cells #[.int .i64 0, .int .i64 0, .int .i64 0, .int .i64 0, .int .i64 0, .int .i64 0, .int .i64 0] 82 (0, 0)) := by rw [hw1]; exact heap_alloc_last _ _ (by simp)
  have hb1 : Below w.heap.size w w1 := by rw [hw1]; exact ((Below.refl _ w).alloc (Nat.le_refl _) _).alloc (by simp) _
  have k1 : w1.cell? ⟨w.heap.size, 1, none⟩ = some (.int .i64 bl) := cell_of_block g0 1
  have k2 : w1.cell? ⟨w.heap.size, 2, none⟩ = some (.int .i64 sl) := cell_of_block g0 2
  have k3 : w1.cell? ⟨w.heap.size, 3, none⟩ = some (.int .i64 jo) := cell_of_block g0 3
  have k4 : w1.cell? ⟨w.heap.size, 4, none⟩ = some (.int .i64 pa) := cell_of_block g0 4
  have k5 : w1.cell? ⟨w.heap.size, 5, none⟩ = some (.int .i64 lo) := cell_of_block g0 5
  have k6 : w1.cell? ⟨w.heap.size, 6, none⟩ = some (.int .i64 ba) := cell_of_block g0 6
  have HG := Lib.hid (And.intro g1 hb1)
  have HW := Lib.hid hw1
  clear g0 g1 hb1 hw1
  go_enter Tryz.func34, Tryz.ntmps34
  go_upto_region 2 with fail
  rw [← HW.out]
  refine wp_region_held_drew (S := fun W => W.cell? ⟨w.heap.size, 1, none⟩ = some (.int .i64 bl) ∧ W.cell? ⟨w.heap.size, 2, none⟩ = some (.int .i64 sl) ∧ W.cell? ⟨w.heap.size, 3, none⟩ = some (.int .i64 jo) ∧ W.cell? ⟨w.heap.size, 4, none⟩ = some (.int .i64 pa) ∧ W.cell? ⟨w.heap.size, 5, none⟩ = some (.int .i64 lo) ∧ W.cell? ⟨w.heap.size, 6, none⟩ = some (.int .i64 ba)) (by kernel_rfl) (by (simp only [World.cell?_drew]); exact ⟨k1, k2, k3, k4, k5, k6⟩) (fun hHeld => ?_)
  refine tk (i := 0) (v := ?_) rfl ?_ hHeld ?_
  rotate_left
  · intro W hSw; (try dsimp only at hSw); (try go_split_ands); go_simp; (try with_reducible rfl)
  simp only [List.getElem_toArray, List.getElem_cons_zero, Act.put, List.setIfInBounds_toArray, List.set_cons_zero, List.set_cons_succ]
  refine tk (i := 1) (v := ?_) rfl ?_ hHeld ?_
  rotate_left
  · intro W hSw; (try dsimp only at hSw); (try go_split_ands); go_simp; (try with_reducible rfl)
  simp only [List.getElem_toArray, List.getElem_cons_succ, List.getElem_cons_zero, Act.put, List.setIfInBounds_toArray, List.set_cons_zero, List.set_cons_succ]
  refine tk (i := 2) (v := ?_) rfl ?_ hHeld ?_
  rotate_left
  · intro W hSw; (try dsimp only at hSw); (try go_split_ands); go_simp; (try with_reducible rfl)
  simp only [List.getElem_toArray, List.getElem_cons_succ, List.getElem_cons_zero, Act.put, List.setIfInBounds_toArray, List.set_cons_zero, List.set_cons_succ]
  refine wpAnyH_ready (rs := [3]) (by kernel_rfl) (by simp) ?_
  refine AllReadyH.cons rfl (fun K hK => ?_) AllReadyH.nil
  go_simp
  refine (in_yes _ _ _ h1.1 h1.2 _).mono ?_
  rintro e w' ⟨rfl, rfl⟩
  refine hK.out _ _ (hHeld) (fun hH1 => ?_)
  clear hK K
  refine tk (i := 4) (v := ?_) rfl ?_ hH1 ?_
  rotate_left
  · intro W hSw; (try dsimp only at hSw); (try go_split_ands); go_simp; (try with_reducible rfl)
  simp only [List.getElem_toArray, List.getElem_cons_succ, List.getElem_cons_zero, Act.put, List.setIfInBounds_toArray, List.set_cons_zero, List.set_cons_succ]
  refine tk (i := 5) (v := ?_) rfl ?_ hH1 ?_
  rotate_left
  · intro W hSw; (try dsimp only at hSw); (try go_split_ands); go_simp; (try with_reducible rfl)
  simp only [List.getElem_toArray, List.getElem_cons_succ, List.getElem_cons_zero, Act.put, List.setIfInBounds_toArray, List.set_cons_zero, List.set_cons_succ]
  refine tk (i := 6) (v := ?_) rfl ?_ hH1 ?_
  rotate_left
  · intro W hSw; (try dsimp only at hSw); (try go_split_ands); go_simp; (try with_reducible rfl)
  simp only [List.getElem_toArray, List.getElem_cons_succ, List.getElem_cons_zero, Act.put, List.setIfInBounds_toArray, List.set_cons_zero, List.set_cons_succ]
  refine tk (i := 7) (v := ?_) rfl ?_ hH1 ?_
  rotate_left
  · intro W hSw; (try dsimp only at hSw); (try go_split_ands); go_simp; (try with_reducible rfl)
  simp only [List.getElem_toArray, List.getElem_cons_succ, List.getElem_cons_zero, Act.put, List.setIfInBounds_toArray, List.set_cons_zero, List.set_cons_succ]
  refine tk (i := 8) (v := ?_) rfl ?_ hH1 ?_
  rotate_left
  · intro W hSw; (try dsimp only at hSw); (try go_split_ands); go_simp; (try with_reducible rfl)
  simp only [List.getElem_toArray, List.getElem_cons_succ, List.getElem_cons_zero, Act.put, List.setIfInBounds_toArray, List.set_cons_zero, List.set_cons_succ]
  refine wpAnyH_ready (rs := [9]) (by kernel_rfl) (by simp) ?_
  refine AllReadyH.cons rfl (fun K hK => ?_) AllReadyH.nil
  go_simp
  refine (in_no _ _ _ hn _).mono ?_
  rintro e w' ⟨rfl, rfl⟩
  refine hK.out _ _ (hH1) (fun hH2 => ?_)
  clear hK K
  refine tk (i := 10) (v := ?_) rfl ?_ hH2 ?_
  rotate_left
  · intro W hSw; (try dsimp only at hSw); (try go_split_ands); go_simp; (try with_reducible rfl)
  simp only [List.getElem_toArray, List.getElem_cons_succ, List.getElem_cons_zero, Act.put, List.setIfInBounds_toArray, List.set_cons_zero, List.set_cons_succ]
  refine wpAnyH_ready (rs := [11]) (by kernel_rfl) (by simp) ?_
  refine AllReadyH.cons rfl (fun K hK => ?_) AllReadyH.nil
  go_simp
  refine hK.out _ _ (hH2) (fun hH3 => ?_)
  clear hK K
  refine tk (i := 12) (v := ?_) rfl ?_ hH3 ?_
  rotate_left
  · intro W hSw; (try dsimp only at hSw); (try go_split_ands); go_simp; (try with_reducible rfl)
  simp only [List.getElem_toArray, List.getElem_cons_succ, List.getElem_cons_zero, Act.put, List.setIfInBounds_toArray, List.set_cons_zero, List.set_cons_succ]
  refine' wpAnyH_take (i := 13) rfl (by kernel_rfl) (by kernel_rfl) (by kernel_rfl) (fun _ _ _ h => h) (Or.inr ⟨by rfl, rfl⟩) hH3 _
  simp only [List.getElem_toArray, List.getElem_cons_succ, List.getElem_cons_zero, Act.put, List.setIfInBounds_toArray, List.set_cons_zero, List.set_cons_succ]
  refine' wpAnyH_take (i := 14) rfl (by kernel_rfl) (by kernel_rfl) (by kernel_rfl) (fun _ _ _ h => h) (Or.inr ⟨by rfl, rfl⟩) hH3 _
  simp only [List.getElem_toArray, List.getElem_cons_succ, List.getElem_cons_zero, Act.put, List.setIfInBounds_toArray, List.set_cons_zero, List.set_cons_succ]
  refine' wpAnyH_take (i := 15) rfl (by kernel_rfl) (by kernel_rfl) (by kernel_rfl) (fun _ _ _ h => h) (Or.inr ⟨by rfl, rfl⟩) hH3 _
  simp only [List.getElem_toArray, List.getElem_cons_succ, List.getElem_cons_zero, Act.put, List.setIfInBounds_toArray, List.set_cons_zero, List.set_cons_succ]
  refine' wpAnyH_take (i := 16) rfl (by kernel_rfl) (by kernel_rfl) (by kernel_rfl) (fun _ _ _ h => h) (Or.inr ⟨by rfl, rfl⟩) hH3 _
  simp only [List.getElem_toArray, List.getElem_cons_succ, List.getElem_cons_zero, Act.put, List.setIfInBounds_toArray, List.set_cons_zero, List.set_cons_succ]
  refine' wpAnyH_take (i := 17) rfl (by kernel_rfl) (by kernel_rfl) (by kernel_rfl) (fun _ _ _ h => h) (Or.inr ⟨by rfl, rfl⟩) hH3 _
  simp only [List.getElem_toArray, List.getElem_cons_succ, List.getElem_cons_zero, Act.put, List.setIfInBounds_toArray, List.set_cons_zero, List.set_cons_succ]
  refine wpAnyH_ready (rs := [18]) (by kernel_rfl) (by simp) ?_
  refine AllReadyH.cons rfl (fun K hK => ?_) AllReadyH.nil
  go_simp
  refine hK.out _ _ (hH3) (fun hH4 => ?_)
  clear hK K
  refine tk (i := 19) (v := ?_) rfl ?_ hH4 ?_
  rotate_left
  · intro W hSw; (try dsimp only at hSw); (try go_split_ands); go_simp; (try with_reducible rfl)
  simp only [List.getElem_toArray, List.getElem_cons_succ, List.getElem_cons_zero, Act.put, List.setIfInBounds_toArray, List.set_cons_zero, List.set_cons_succ]
  refine' wpAnyH_take (i := 20) rfl (by kernel_rfl) (by kernel_rfl) (by kernel_rfl) (fun _ _ _ h => h) (Or.inr ⟨by rfl, rfl⟩) hH4 _
  simp only [List.getElem_toArray, List.getElem_cons_succ, List.getElem_cons_zero, Act.put, List.setIfInBounds_toArray, List.set_cons_zero, List.set_cons_succ]
  refine' wpAnyH_take (i := 21) rfl (by kernel_rfl) (by kernel_rfl) (by kernel_rfl) (fun _ _ _ h => h) (Or.inr ⟨by rfl, rfl⟩) hH4 _
  simp only [List.getElem_toArray, List.getElem_cons_succ, List.getElem_cons_zero, Act.put, List.setIfInBounds_toArray, List.set_cons_zero, List.set_cons_succ]
  refine' wpAnyH_take (i := 22) rfl (by kernel_rfl) (by kernel_rfl) (by kernel_rfl) (fun _ _ _ h => h) (Or.inr ⟨by rfl, rfl⟩) hH4 _
  simp only [List.getElem_toArray, List.getElem_cons_succ, List.getElem_cons_zero, Act.put, List.setIfInBounds_toArray, List.set_cons_zero, List.set_cons_succ]
  refine' wpAnyH_take (i := 23) rfl (by kernel_rfl) (by kernel_rfl) (by kernel_rfl) (fun _ _ _ h => h) (Or.inr ⟨by rfl, rfl⟩) hH4 _
  simp only [List.getElem_toArray, List.getElem_cons_succ, List.getElem_cons_zero, Act.put, List.setIfInBounds_toArray, List.set_cons_zero, List.set_cons_succ]
  refine' wpAnyH_take (i := 24) rfl (by kernel_rfl) (by kernel_rfl) (by kernel_rfl) (fun _ _ _ h => h) (Or.inr ⟨by rfl, rfl⟩) hH4 _
  simp only [List.getElem_toArray, List.getElem_cons_succ, List.getElem_cons_zero, Act.put, List.setIfInBounds_toArray, List.set_cons_zero, List.set_cons_succ]
  refine wpAnyH_ready (rs := [25]) (by kernel_rfl) (by simp) ?_
  refine AllReadyH.cons rfl (fun K hK => ?_) AllReadyH.nil
  go_simp
  refine hK.out _ _ (hH4) (fun hH5 => ?_)
  clear hK K
  refine tk (i := 26) (v := ?_) rfl ?_ hH5 ?_
  rotate_left
  · intro W hSw; (try dsimp only at hSw); (try go_split_ands); go_simp; (try with_reducible rfl)
  simp only [List.getElem_toArray, List.getElem_cons_succ, List.getElem_cons_zero, Act.put, List.setIfInBounds_toArray, List.set_cons_zero, List.set_cons_succ]
  refine' wpAnyH_take (i := 27) rfl (by kernel_rfl) (by kernel_rfl) (by kernel_rfl) (fun _ _ _ h => h) (Or.inr ⟨by rfl, rfl⟩) hH5 _
  simp only [List.getElem_toArray, List.getElem_cons_succ, List.getElem_cons_zero, Act.put, List.setIfInBounds_toArray, List.set_cons_zero, List.set_cons_succ]
  refine' wpAnyH_take (i := 28) rfl (by kernel_rfl) (by kernel_rfl) (by kernel_rfl) (fun _ _ _ h => h) (Or.inr ⟨by rfl, rfl⟩) hH5 _
  simp only [List.getElem_toArray, List.getElem_cons_succ, List.getElem_cons_zero, Act.put, List.setIfInBounds_toArray, List.set_cons_zero, List.set_cons_succ]
  refine' wpAnyH_take (i := 29) rfl (by kernel_rfl) (by kernel_rfl) (by kernel_rfl) (fun _ _ _ h => h) (Or.inr ⟨by rfl, rfl⟩) hH5 _
  simp only [List.getElem_toArray, List.getElem_cons_succ, List.getElem_cons_zero, Act.put, List.setIfInBounds_toArray, List.set_cons_zero, List.set_cons_succ]
  refine' wpAnyH_take (i := 30) rfl (by kernel_rfl) (by kernel_rfl) (by kernel_rfl) (fun _ _ _ h => h) (Or.inr ⟨by rfl, rfl⟩) hH5 _
  simp only [List.getElem_toArray, List.getElem_cons_succ, List.getElem_cons_zero, Act.put, List.setIfInBounds_toArray, List.set_cons_zero, List.set_cons_succ]
  refine' wpAnyH_take (i := 31) rfl (by kernel_rfl) (by kernel_rfl) (by kernel_rfl) (fun _ _ _ h => h) (Or.inr ⟨by rfl, rfl⟩) hH5 _
  simp only [List.getElem_toArray, List.getElem_cons_succ, List.getElem_cons_zero, Act.put, List.setIfInBounds_toArray, List.set_cons_zero, List.set_cons_succ]
  refine wpAnyH_ready (rs := [32]) (by kernel_rfl) (by simp) ?_
  refine AllReadyH.cons rfl (fun K hK => ?_) AllReadyH.nil
  go_simp
  refine hK.out _ _ (hH5) (fun hH6 => ?_)
  clear hK K
  refine tk (i := 33) (v := ?_) rfl ?_ hH6 ?_
  rotate_left
  · intro W hSw; (try dsimp only at hSw); (try go_split_ands); go_simp; (try with_reducible rfl)
  simp only [List.getElem_toArray, List.getElem_cons_succ, List.getElem_cons_zero, Act.put, List.setIfInBounds_toArray, List.set_cons_zero, List.set_cons_succ]
  refine' wpAnyH_take (i := 34) rfl (by kernel_rfl) (by kernel_rfl) (by kernel_rfl) (fun _ _ _ h => h) (Or.inr ⟨by rfl, rfl⟩) hH6 _
  simp only [List.getElem_toArray, List.getElem_cons_succ, List.getElem_cons_zero, Act.put, List.setIfInBounds_toArray, List.set_cons_zero, List.set_cons_succ]
  refine' wpAnyH_take (i := 35) rfl (by kernel_rfl) (by kernel_rfl) (by kernel_rfl) (fun _ _ _ h => h) (Or.inr ⟨by rfl, rfl⟩) hH6 _
  simp only [List.getElem_toArray, List.getElem_cons_succ, List.getElem_cons_zero, Act.put, List.setIfInBounds_toArray, List.set_cons_zero, List.set_cons_succ]
  refine' wpAnyH_take (i := 36) rfl (by kernel_rfl) (by kernel_rfl) (by kernel_rfl) (fun _ _ _ h => h) (Or.inr ⟨by rfl, rfl⟩) hH6 _
  simp only [List.getElem_toArray, List.getElem_cons_succ, List.getElem_cons_zero, Act.put, List.setIfInBounds_toArray, List.set_cons_zero, List.set_cons_succ]
  refine' wpAnyH_take (i := 37) rfl (by kernel_rfl) (by kernel_rfl) (by kernel_rfl) (fun _ _ _ h => h) (Or.inr ⟨by rfl, rfl⟩) hH6 _
  simp only [List.getElem_toArray, List.getElem_cons_succ, List.getElem_cons_zero, Act.put, List.setIfInBounds_toArray, List.set_cons_zero, List.set_cons_succ]
  refine' wpAnyH_take (i := 38) rfl (by kernel_rfl) (by kernel_rfl) (by kernel_rfl) (fun _ _ _ h => h) (Or.inr ⟨by rfl, rfl⟩) hH6 _
  simp only [List.getElem_toArray, List.getElem_cons_succ, List.getElem_cons_zero, Act.put, List.setIfInBounds_toArray, List.set_cons_zero, List.set_cons_succ]
  refine' wpAnyH_take (i := 39) rfl (by kernel_rfl) (by kernel_rfl) (by kernel_rfl) (fun _ _ _ h => h) (Or.inr ⟨by rfl, rfl⟩) hH6 _
  simp only [List.getElem_toArray, List.getElem_cons_succ, List.getElem_cons_zero, Act.put, List.setIfInBounds_toArray, List.set_cons_zero, List.set_cons_succ]
  refine' wpAnyH_take (i := 40) rfl (by kernel_rfl) (by kernel_rfl) (by kernel_rfl) (fun _ _ _ h => h) (Or.inr ⟨by rfl, rfl⟩) hH6 _
  simp only [List.getElem_toArray, List.getElem_cons_succ, List.getElem_cons_zero, Act.put, List.setIfInBounds_toArray, List.set_cons_zero, List.set_cons_succ]
  refine' wpAnyH_take (i := 41) rfl (by kernel_rfl) (by kernel_rfl) (by kernel_rfl) (fun _ _ _ h => h) (Or.inr ⟨by rfl, rfl⟩) hH6 _
  simp only [List.getElem_toArray, List.getElem_cons_succ, List.getElem_cons_zero, Act.put, List.setIfInBounds_toArray, List.set_cons_zero, List.set_cons_succ]
  refine wpAnyH_ready (rs := [42]) (by kernel_rfl) (by simp) ?_
  refine AllReadyH.cons rfl (fun K hK => ?_) AllReadyH.nil
  go_simp
  refine hK.out _ _ (hH6) (fun hH7 => ?_)
  clear hK K
  refine wpAnyH_done (by kernel_rfl) ?_ _
  obtain ⟨g1, hb1⟩ := HG.out
  have hud := (Upd.refl (fun _ => False) w1).drew
  have g2 := hud.blockv g1
  have hb2 : Below w.heap.size w w1.drew := hb1.drew
  generalize w1.drew = w2 at *
  have hth : w2.there (w.heap.size + 1) 0 7 := fun j hj => by
    rw [cell_of_block g2, frozen_of_block g2, Nat.zero_add]
    exact ⟨by rw [Array.getElem?_eq_getElem (by simpa using hj)]; rfl, rfl⟩
  have HB := Lib.hid hb2
  clear g1 hb1 g2 hb2 hud hHeld hH1 hH2 hH3 hH4 hH5 hH6 hH7 k1 k2 k3 k4 k5 k6 HG HW
  obtain ⟨L, hL⟩ : ∃ L : List Value, L = [.int .i64 0, .int .i64 0, .int .i64 0, .int .i64 0, .int .i64 0, .int .i64 0, .int .i64 0] := ⟨_, rfl⟩
  have h7 : L.length = 7 := by rw [hL]; rfl
  have hsz : L.toArray.size = 7 := by rw [hL]; rfl
  have hi : (Tryz.prog.info? 82).map (·.size) = some L.length := by rw [h7]; exact infoLay
  have hi2 : (Tryz.prog.info? 82).map (·.size) = some L.toArray.size := by rw [hsz]; exact infoLay
  have ho1 : L.toArray.all (·.oneCell') = true := all_oneCell_toArray (by intro v hv; rw [hL] at hv; simp at hv; subst hv; rfl)
  have hth3 : w2.there (w.heap.size + 1) 0 L.toArray.size := by rw [hsz]; exact hth
  have hth4 : w2.there (w.heap.size + 1) 0 L.length := by rw [h7]; exact hth
  replace hL := Lib.hid hL
  have HF := Lib.hid (And.intro hi (And.intro hi2 (And.intro ho1 (And.intro hth3 hth4))))
  clear h7 hi hi2 ho1 hth3 hth4 hth hsz
  go_wp2_with (first
    | (refine wpList_store_mid rfl _ _ _ rfl (w.heap.size + 1) 0 L.toArray rfl (by rw [hL.out]; rfl) HF.out.2.2.2.1 HF.out.2.1 HF.out.2.2.1 ?_)
    | fail)
  refine bodyPost_ret (results_mid2 rfl _ _ (w.heap.size + 1) 0 L _ rfl (World.rangeAt_setCells_same _ _ _ _ HF.out.2.2.2.2) Tryz.underlying82 rfl HF.out.1) rfl ⟨by rw [hL.out]; rfl, below_upd HB.out (upd_row _ (w.heap.size + 1) 0 _) (Nat.le_refl _) (fun k h => by omega)⟩
set_option maxRecDepth 100000 in
set_option maxHeartbeats 2000000 in
theorem plan_no3 (id bl sl jo pa lo ba : Int) (h1 : 1 ≤ bl ∧ bl ≤ 4096) (h2 : 1 ≤ sl ∧ sl ≤ 1024) (hn : ¬ (4 ≤ jo ∧ jo ≤ 1024)) (w : World) :
    Calls Tryz.prog 34 #[.agg (superC id bl sl jo pa lo ba).toArray] w (PlanBad w) := by
  obtain ⟨w1, hw1⟩ : ∃ w1, w1 = (w.alloc (.cells (superC id bl sl jo pa lo ba).toArray 34)).alloc (.cells #[.int .i64 0, .int .i64 0, .int .i64 0, .int .i64 0, .int .i64 0, .int .i64 0, .int .i64 0] 82) := ⟨_, rfl⟩
  have g0 : w1.heap[w.heap.size]? = some (.cells (superC id bl sl jo pa lo ba).toArray 34 (0, 0)) := by rw [hw1]; exact (Below.heap_alloc _ _ _ (by simp)).trans (heap_alloc_last w _ rfl)
  have g1 : w1.heap[w.heap.size + 1]? = some (.cells #[.int .i64 0, .int .i64 0, .int .i64 0, .int .i64 0, .int .i64 0, .int .i64 0, .int .i64 0] 82 (0, 0)) := by rw [hw1]; exact heap_alloc_last _ _ (by simp)
  have hb1 : Below w.heap.size w w1 := by rw [hw1]; exact ((Below.refl _ w).alloc (Nat.le_refl _) _).alloc (by simp) _
  have k1 : w1.cell? ⟨w.heap.size, 1, none⟩ = some (.int .i64 bl) := cell_of_block g0 1
  have k2 : w1.cell? ⟨w.heap.size, 2, none⟩ = some (.int .i64 sl) := cell_of_block g0 2
  have k3 : w1.cell? ⟨w.heap.size, 3, none⟩ = some (.int .i64 jo) := cell_of_block g0 3
  have k4 : w1.cell? ⟨w.heap.size, 4, none⟩ = some (.int .i64 pa) := cell_of_block g0 4
  have k5 : w1.cell? ⟨w.heap.size, 5, none⟩ = some (.int .i64 lo) := cell_of_block g0 5
  have k6 : w1.cell? ⟨w.heap.size, 6, none⟩ = some (.int .i64 ba) := cell_of_block g0 6
  have HG := Lib.hid (And.intro g1 hb1)
  have HW := Lib.hid hw1
  clear g0 g1 hb1 hw1
  go_enter Tryz.func34, Tryz.ntmps34
  go_upto_region 2 with fail
  rw [← HW.out]
  refine wp_region_held_drew (S := fun W => W.cell? ⟨w.heap.size, 1, none⟩ = some (.int .i64 bl) ∧ W.cell? ⟨w.heap.size, 2, none⟩ = some (.int .i64 sl) ∧ W.cell? ⟨w.heap.size, 3, none⟩ = some (.int .i64 jo) ∧ W.cell? ⟨w.heap.size, 4, none⟩ = some (.int .i64 pa) ∧ W.cell? ⟨w.heap.size, 5, none⟩ = some (.int .i64 lo) ∧ W.cell? ⟨w.heap.size, 6, none⟩ = some (.int .i64 ba)) (by kernel_rfl) (by (simp only [World.cell?_drew]); exact ⟨k1, k2, k3, k4, k5, k6⟩) (fun hHeld => ?_)
  refine tk (i := 0) (v := ?_) rfl ?_ hHeld ?_
  rotate_left
  · intro W hSw; (try dsimp only at hSw); (try go_split_ands); go_simp; (try with_reducible rfl)
  simp only [List.getElem_toArray, List.getElem_cons_zero, Act.put, List.setIfInBounds_toArray, List.set_cons_zero, List.set_cons_succ]
  refine tk (i := 1) (v := ?_) rfl ?_ hHeld ?_
  rotate_left
  · intro W hSw; (try dsimp only at hSw); (try go_split_ands); go_simp; (try with_reducible rfl)
  simp only [List.getElem_toArray, List.getElem_cons_succ, List.getElem_cons_zero, Act.put, List.setIfInBounds_toArray, List.set_cons_zero, List.set_cons_succ]
  refine tk (i := 2) (v := ?_) rfl ?_ hHeld ?_
  rotate_left
  · intro W hSw; (try dsimp only at hSw); (try go_split_ands); go_simp; (try with_reducible rfl)
  simp only [List.getElem_toArray, List.getElem_cons_succ, List.getElem_cons_zero, Act.put, List.setIfInBounds_toArray, List.set_cons_zero, List.set_cons_succ]
  refine wpAnyH_ready (rs := [3]) (by kernel_rfl) (by simp) ?_
  refine AllReadyH.cons rfl (fun K hK => ?_) AllReadyH.nil
  go_simp
  refine (in_yes _ _ _ h1.1 h1.2 _).mono ?_
  rintro e w' ⟨rfl, rfl⟩
  refine hK.out _ _ (hHeld) (fun hH1 => ?_)
  clear hK K
  refine tk (i := 4) (v := ?_) rfl ?_ hH1 ?_
  rotate_left
  · intro W hSw; (try dsimp only at hSw); (try go_split_ands); go_simp; (try with_reducible rfl)
  simp only [List.getElem_toArray, List.getElem_cons_succ, List.getElem_cons_zero, Act.put, List.setIfInBounds_toArray, List.set_cons_zero, List.set_cons_succ]
  refine tk (i := 5) (v := ?_) rfl ?_ hH1 ?_
  rotate_left
  · intro W hSw; (try dsimp only at hSw); (try go_split_ands); go_simp; (try with_reducible rfl)
  simp only [List.getElem_toArray, List.getElem_cons_succ, List.getElem_cons_zero, Act.put, List.setIfInBounds_toArray, List.set_cons_zero, List.set_cons_succ]
  refine tk (i := 6) (v := ?_) rfl ?_ hH1 ?_
  rotate_left
  · intro W hSw; (try dsimp only at hSw); (try go_split_ands); go_simp; (try with_reducible rfl)
  simp only [List.getElem_toArray, List.getElem_cons_succ, List.getElem_cons_zero, Act.put, List.setIfInBounds_toArray, List.set_cons_zero, List.set_cons_succ]
  refine tk (i := 7) (v := ?_) rfl ?_ hH1 ?_
  rotate_left
  · intro W hSw; (try dsimp only at hSw); (try go_split_ands); go_simp; (try with_reducible rfl)
  simp only [List.getElem_toArray, List.getElem_cons_succ, List.getElem_cons_zero, Act.put, List.setIfInBounds_toArray, List.set_cons_zero, List.set_cons_succ]
  refine tk (i := 8) (v := ?_) rfl ?_ hH1 ?_
  rotate_left
  · intro W hSw; (try dsimp only at hSw); (try go_split_ands); go_simp; (try with_reducible rfl)
  simp only [List.getElem_toArray, List.getElem_cons_succ, List.getElem_cons_zero, Act.put, List.setIfInBounds_toArray, List.set_cons_zero, List.set_cons_succ]
  refine wpAnyH_ready (rs := [9]) (by kernel_rfl) (by simp) ?_
  refine AllReadyH.cons rfl (fun K hK => ?_) AllReadyH.nil
  go_simp
  refine (in_yes _ _ _ h2.1 h2.2 _).mono ?_
  rintro e w' ⟨rfl, rfl⟩
  refine hK.out _ _ (hH1) (fun hH2 => ?_)
  clear hK K
  refine tk (i := 10) (v := ?_) rfl ?_ hH2 ?_
  rotate_left
  · intro W hSw; (try dsimp only at hSw); (try go_split_ands); go_simp; (try with_reducible rfl)
  simp only [List.getElem_toArray, List.getElem_cons_succ, List.getElem_cons_zero, Act.put, List.setIfInBounds_toArray, List.set_cons_zero, List.set_cons_succ]
  refine wpAnyH_ready (rs := [11]) (by kernel_rfl) (by simp) ?_
  refine AllReadyH.cons rfl (fun K hK => ?_) AllReadyH.nil
  go_simp
  refine hK.out _ _ (hH2) (fun hH3 => ?_)
  clear hK K
  refine tk (i := 12) (v := ?_) rfl ?_ hH3 ?_
  rotate_left
  · intro W hSw; (try dsimp only at hSw); (try go_split_ands); go_simp; (try with_reducible rfl)
  simp only [List.getElem_toArray, List.getElem_cons_succ, List.getElem_cons_zero, Act.put, List.setIfInBounds_toArray, List.set_cons_zero, List.set_cons_succ]
  refine tk (i := 13) (v := ?_) rfl ?_ hH3 ?_
  rotate_left
  · intro W hSw; (try dsimp only at hSw); (try go_split_ands); go_simp; (try with_reducible rfl)
  simp only [List.getElem_toArray, List.getElem_cons_succ, List.getElem_cons_zero, Act.put, List.setIfInBounds_toArray, List.set_cons_zero, List.set_cons_succ]
  refine tk (i := 14) (v := ?_) rfl ?_ hH3 ?_
  rotate_left
  · intro W hSw; (try dsimp only at hSw); (try go_split_ands); go_simp; (try with_reducible rfl)
  simp only [List.getElem_toArray, List.getElem_cons_succ, List.getElem_cons_zero, Act.put, List.setIfInBounds_toArray, List.set_cons_zero, List.set_cons_succ]
  refine tk (i := 15) (v := ?_) rfl ?_ hH3 ?_
  rotate_left
  · intro W hSw; (try dsimp only at hSw); (try go_split_ands); go_simp; (try with_reducible rfl)
  simp only [List.getElem_toArray, List.getElem_cons_succ, List.getElem_cons_zero, Act.put, List.setIfInBounds_toArray, List.set_cons_zero, List.set_cons_succ]
  refine wpAnyH_ready (rs := [16]) (by kernel_rfl) (by simp) ?_
  refine AllReadyH.cons rfl (fun K hK => ?_) AllReadyH.nil
  go_simp
  refine (in_no _ _ _ hn _).mono ?_
  rintro e w' ⟨rfl, rfl⟩
  refine hK.out _ _ (hH3) (fun hH4 => ?_)
  clear hK K
  refine tk (i := 17) (v := ?_) rfl ?_ hH4 ?_
  rotate_left
  · intro W hSw; (try dsimp only at hSw); (try go_split_ands); go_simp; (try with_reducible rfl)
  simp only [List.getElem_toArray, List.getElem_cons_succ, List.getElem_cons_zero, Act.put, List.setIfInBounds_toArray, List.set_cons_zero, List.set_cons_succ]
  refine wpAnyH_ready (rs := [18]) (by kernel_rfl) (by simp) ?_
  refine AllReadyH.cons rfl (fun K hK => ?_) AllReadyH.nil
  go_simp
  refine hK.out _ _ (hH4) (fun hH5 => ?_)
  clear hK K
  refine tk (i := 19) (v := ?_) rfl ?_ hH5 ?_
  rotate_left
  · intro W hSw; (try dsimp only at hSw); (try go_split_ands); go_simp; (try with_reducible rfl)
  simp only [List.getElem_toArray, List.getElem_cons_succ, List.getElem_cons_zero, Act.put, List.setIfInBounds_toArray, List.set_cons_zero, List.set_cons_succ]
  refine' wpAnyH_take (i := 20) rfl (by kernel_rfl) (by kernel_rfl) (by kernel_rfl) (fun _ _ _ h => h) (Or.inr ⟨by rfl, rfl⟩) hH5 _
  simp only [List.getElem_toArray, List.getElem_cons_succ, List.getElem_cons_zero, Act.put, List.setIfInBounds_toArray, List.set_cons_zero, List.set_cons_succ]
  refine' wpAnyH_take (i := 21) rfl (by kernel_rfl) (by kernel_rfl) (by kernel_rfl) (fun _ _ _ h => h) (Or.inr ⟨by rfl, rfl⟩) hH5 _
  simp only [List.getElem_toArray, List.getElem_cons_succ, List.getElem_cons_zero, Act.put, List.setIfInBounds_toArray, List.set_cons_zero, List.set_cons_succ]
  refine' wpAnyH_take (i := 22) rfl (by kernel_rfl) (by kernel_rfl) (by kernel_rfl) (fun _ _ _ h => h) (Or.inr ⟨by rfl, rfl⟩) hH5 _
  simp only [List.getElem_toArray, List.getElem_cons_succ, List.getElem_cons_zero, Act.put, List.setIfInBounds_toArray, List.set_cons_zero, List.set_cons_succ]
  refine' wpAnyH_take (i := 23) rfl (by kernel_rfl) (by kernel_rfl) (by kernel_rfl) (fun _ _ _ h => h) (Or.inr ⟨by rfl, rfl⟩) hH5 _
  simp only [List.getElem_toArray, List.getElem_cons_succ, List.getElem_cons_zero, Act.put, List.setIfInBounds_toArray, List.set_cons_zero, List.set_cons_succ]
  refine' wpAnyH_take (i := 24) rfl (by kernel_rfl) (by kernel_rfl) (by kernel_rfl) (fun _ _ _ h => h) (Or.inr ⟨by rfl, rfl⟩) hH5 _
  simp only [List.getElem_toArray, List.getElem_cons_succ, List.getElem_cons_zero, Act.put, List.setIfInBounds_toArray, List.set_cons_zero, List.set_cons_succ]
  refine wpAnyH_ready (rs := [25]) (by kernel_rfl) (by simp) ?_
  refine AllReadyH.cons rfl (fun K hK => ?_) AllReadyH.nil
  go_simp
  refine hK.out _ _ (hH5) (fun hH6 => ?_)
  clear hK K
  refine tk (i := 26) (v := ?_) rfl ?_ hH6 ?_
  rotate_left
  · intro W hSw; (try dsimp only at hSw); (try go_split_ands); go_simp; (try with_reducible rfl)
  simp only [List.getElem_toArray, List.getElem_cons_succ, List.getElem_cons_zero, Act.put, List.setIfInBounds_toArray, List.set_cons_zero, List.set_cons_succ]
  refine' wpAnyH_take (i := 27) rfl (by kernel_rfl) (by kernel_rfl) (by kernel_rfl) (fun _ _ _ h => h) (Or.inr ⟨by rfl, rfl⟩) hH6 _
  simp only [List.getElem_toArray, List.getElem_cons_succ, List.getElem_cons_zero, Act.put, List.setIfInBounds_toArray, List.set_cons_zero, List.set_cons_succ]
  refine' wpAnyH_take (i := 28) rfl (by kernel_rfl) (by kernel_rfl) (by kernel_rfl) (fun _ _ _ h => h) (Or.inr ⟨by rfl, rfl⟩) hH6 _
  simp only [List.getElem_toArray, List.getElem_cons_succ, List.getElem_cons_zero, Act.put, List.setIfInBounds_toArray, List.set_cons_zero, List.set_cons_succ]
  refine' wpAnyH_take (i := 29) rfl (by kernel_rfl) (by kernel_rfl) (by kernel_rfl) (fun _ _ _ h => h) (Or.inr ⟨by rfl, rfl⟩) hH6 _
  simp only [List.getElem_toArray, List.getElem_cons_succ, List.getElem_cons_zero, Act.put, List.setIfInBounds_toArray, List.set_cons_zero, List.set_cons_succ]
  refine' wpAnyH_take (i := 30) rfl (by kernel_rfl) (by kernel_rfl) (by kernel_rfl) (fun _ _ _ h => h) (Or.inr ⟨by rfl, rfl⟩) hH6 _
  simp only [List.getElem_toArray, List.getElem_cons_succ, List.getElem_cons_zero, Act.put, List.setIfInBounds_toArray, List.set_cons_zero, List.set_cons_succ]
  refine' wpAnyH_take (i := 31) rfl (by kernel_rfl) (by kernel_rfl) (by kernel_rfl) (fun _ _ _ h => h) (Or.inr ⟨by rfl, rfl⟩) hH6 _
  simp only [List.getElem_toArray, List.getElem_cons_succ, List.getElem_cons_zero, Act.put, List.setIfInBounds_toArray, List.set_cons_zero, List.set_cons_succ]
  refine wpAnyH_ready (rs := [32]) (by kernel_rfl) (by simp) ?_
  refine AllReadyH.cons rfl (fun K hK => ?_) AllReadyH.nil
  go_simp
  refine hK.out _ _ (hH6) (fun hH7 => ?_)
  clear hK K
  refine tk (i := 33) (v := ?_) rfl ?_ hH7 ?_
  rotate_left
  · intro W hSw; (try dsimp only at hSw); (try go_split_ands); go_simp; (try with_reducible rfl)
  simp only [List.getElem_toArray, List.getElem_cons_succ, List.getElem_cons_zero, Act.put, List.setIfInBounds_toArray, List.set_cons_zero, List.set_cons_succ]
  refine' wpAnyH_take (i := 34) rfl (by kernel_rfl) (by kernel_rfl) (by kernel_rfl) (fun _ _ _ h => h) (Or.inr ⟨by rfl, rfl⟩) hH7 _
  simp only [List.getElem_toArray, List.getElem_cons_succ, List.getElem_cons_zero, Act.put, List.setIfInBounds_toArray, List.set_cons_zero, List.set_cons_succ]
  refine' wpAnyH_take (i := 35) rfl (by kernel_rfl) (by kernel_rfl) (by kernel_rfl) (fun _ _ _ h => h) (Or.inr ⟨by rfl, rfl⟩) hH7 _
  simp only [List.getElem_toArray, List.getElem_cons_succ, List.getElem_cons_zero, Act.put, List.setIfInBounds_toArray, List.set_cons_zero, List.set_cons_succ]
  refine' wpAnyH_take (i := 36) rfl (by kernel_rfl) (by kernel_rfl) (by kernel_rfl) (fun _ _ _ h => h) (Or.inr ⟨by rfl, rfl⟩) hH7 _
  simp only [List.getElem_toArray, List.getElem_cons_succ, List.getElem_cons_zero, Act.put, List.setIfInBounds_toArray, List.set_cons_zero, List.set_cons_succ]
  refine' wpAnyH_take (i := 37) rfl (by kernel_rfl) (by kernel_rfl) (by kernel_rfl) (fun _ _ _ h => h) (Or.inr ⟨by rfl, rfl⟩) hH7 _
  simp only [List.getElem_toArray, List.getElem_cons_succ, List.getElem_cons_zero, Act.put, List.setIfInBounds_toArray, List.set_cons_zero, List.set_cons_succ]
  refine' wpAnyH_take (i := 38) rfl (by kernel_rfl) (by kernel_rfl) (by kernel_rfl) (fun _ _ _ h => h) (Or.inr ⟨by rfl, rfl⟩) hH7 _
  simp only [List.getElem_toArray, List.getElem_cons_succ, List.getElem_cons_zero, Act.put, List.setIfInBounds_toArray, List.set_cons_zero, List.set_cons_succ]
  refine' wpAnyH_take (i := 39) rfl (by kernel_rfl) (by kernel_rfl) (by kernel_rfl) (fun _ _ _ h => h) (Or.inr ⟨by rfl, rfl⟩) hH7 _
  simp only [List.getElem_toArray, List.getElem_cons_succ, List.getElem_cons_zero, Act.put, List.setIfInBounds_toArray, List.set_cons_zero, List.set_cons_succ]
  refine' wpAnyH_take (i := 40) rfl (by kernel_rfl) (by kernel_rfl) (by kernel_rfl) (fun _ _ _ h => h) (Or.inr ⟨by rfl, rfl⟩) hH7 _
  simp only [List.getElem_toArray, List.getElem_cons_succ, List.getElem_cons_zero, Act.put, List.setIfInBounds_toArray, List.set_cons_zero, List.set_cons_succ]
  refine' wpAnyH_take (i := 41) rfl (by kernel_rfl) (by kernel_rfl) (by kernel_rfl) (fun _ _ _ h => h) (Or.inr ⟨by rfl, rfl⟩) hH7 _
  simp only [List.getElem_toArray, List.getElem_cons_succ, List.getElem_cons_zero, Act.put, List.setIfInBounds_toArray, List.set_cons_zero, List.set_cons_succ]
  refine wpAnyH_ready (rs := [42]) (by kernel_rfl) (by simp) ?_
  refine AllReadyH.cons rfl (fun K hK => ?_) AllReadyH.nil
  go_simp
  refine hK.out _ _ (hH7) (fun hH8 => ?_)
  clear hK K
  refine wpAnyH_done (by kernel_rfl) ?_ _
  obtain ⟨g1, hb1⟩ := HG.out
  have hud := (Upd.refl (fun _ => False) w1).drew
  have g2 := hud.blockv g1
  have hb2 : Below w.heap.size w w1.drew := hb1.drew
  generalize w1.drew = w2 at *
  have hth : w2.there (w.heap.size + 1) 0 7 := fun j hj => by
    rw [cell_of_block g2, frozen_of_block g2, Nat.zero_add]
    exact ⟨by rw [Array.getElem?_eq_getElem (by simpa using hj)]; rfl, rfl⟩
  have HB := Lib.hid hb2
  clear g1 hb1 g2 hb2 hud hHeld hH1 hH2 hH3 hH4 hH5 hH6 hH7 hH8 k1 k2 k3 k4 k5 k6 HG HW
  obtain ⟨L, hL⟩ : ∃ L : List Value, L = [.int .i64 0, .int .i64 0, .int .i64 0, .int .i64 0, .int .i64 0, .int .i64 0, .int .i64 0] := ⟨_, rfl⟩
  have h7 : L.length = 7 := by rw [hL]; rfl
  have hsz : L.toArray.size = 7 := by rw [hL]; rfl
  have hi : (Tryz.prog.info? 82).map (·.size) = some L.length := by rw [h7]; exact infoLay
  have hi2 : (Tryz.prog.info? 82).map (·.size) = some L.toArray.size := by rw [hsz]; exact infoLay
  have ho1 : L.toArray.all (·.oneCell') = true := all_oneCell_toArray (by intro v hv; rw [hL] at hv; simp at hv; subst hv; rfl)
  have hth3 : w2.there (w.heap.size + 1) 0 L.toArray.size := by rw [hsz]; exact hth
  have hth4 : w2.there (w.heap.size + 1) 0 L.length := by rw [h7]; exact hth
  replace hL := Lib.hid hL
  have HF := Lib.hid (And.intro hi (And.intro hi2 (And.intro ho1 (And.intro hth3 hth4))))
  clear h7 hi hi2 ho1 hth3 hth4 hth hsz
  go_wp2_with (first
    | (refine wpList_store_mid rfl _ _ _ rfl (w.heap.size + 1) 0 L.toArray rfl (by rw [hL.out]; rfl) HF.out.2.2.2.1 HF.out.2.1 HF.out.2.2.1 ?_)
    | fail)
  refine bodyPost_ret (results_mid2 rfl _ _ (w.heap.size + 1) 0 L _ rfl (World.rangeAt_setCells_same _ _ _ _ HF.out.2.2.2.2) Tryz.underlying82 rfl HF.out.1) rfl ⟨by rw [hL.out]; rfl, below_upd HB.out (upd_row _ (w.heap.size + 1) 0 _) (Nat.le_refl _) (fun k h => by omega)⟩
set_option maxRecDepth 100000 in
set_option maxHeartbeats 2000000 in
theorem plan_no4 (id bl sl jo pa lo ba : Int) (h1 : 1 ≤ bl ∧ bl ≤ 4096) (h2 : 1 ≤ sl ∧ sl ≤ 1024) (h3 : 4 ≤ jo ∧ jo ≤ 1024) (hn : ¬ (1 ≤ lo ∧ lo ≤ 1024)) (w : World) :
    Calls Tryz.prog 34 #[.agg (superC id bl sl jo pa lo ba).toArray] w (PlanBad w) := by
  obtain ⟨w1, hw1⟩ : ∃ w1, w1 = (w.alloc (.cells (superC id bl sl jo pa lo ba).toArray 34)).alloc (.cells #[.int .i64 0, .int .i64 0, .int .i64 0, .int .i64 0, .int .i64 0, .int .i64 0, .int .i64 0] 82) := ⟨_, rfl⟩
  have g0 : w1.heap[w.heap.size]? = some (.cells (superC id bl sl jo pa lo ba).toArray 34 (0, 0)) := by rw [hw1]; exact (Below.heap_alloc _ _ _ (by simp)).trans (heap_alloc_last w _ rfl)
  have g1 : w1.heap[w.heap.size + 1]? = some (.cells #[.int .i64 0, .int .i64 0, .int .i64 0, .int .i64 0, .int .i64 0, .int .i64 0, .int .i64 0] 82 (0, 0)) := by rw [hw1]; exact heap_alloc_last _ _ (by simp)
  have hb1 : Below w.heap.size w w1 := by rw [hw1]; exact ((Below.refl _ w).alloc (Nat.le_refl _) _).alloc (by simp) _
  have k1 : w1.cell? ⟨w.heap.size, 1, none⟩ = some (.int .i64 bl) := cell_of_block g0 1
  have k2 : w1.cell? ⟨w.heap.size, 2, none⟩ = some (.int .i64 sl) := cell_of_block g0 2
  have k3 : w1.cell? ⟨w.heap.size, 3, none⟩ = some (.int .i64 jo) := cell_of_block g0 3
  have k4 : w1.cell? ⟨w.heap.size, 4, none⟩ = some (.int .i64 pa) := cell_of_block g0 4
  have k5 : w1.cell? ⟨w.heap.size, 5, none⟩ = some (.int .i64 lo) := cell_of_block g0 5
  have k6 : w1.cell? ⟨w.heap.size, 6, none⟩ = some (.int .i64 ba) := cell_of_block g0 6
  have HG := Lib.hid (And.intro g1 hb1)
  have HW := Lib.hid hw1
  clear g0 g1 hb1 hw1
  go_enter Tryz.func34, Tryz.ntmps34
  go_upto_region 2 with fail
  rw [← HW.out]
  refine wp_region_held_drew (S := fun W => W.cell? ⟨w.heap.size, 1, none⟩ = some (.int .i64 bl) ∧ W.cell? ⟨w.heap.size, 2, none⟩ = some (.int .i64 sl) ∧ W.cell? ⟨w.heap.size, 3, none⟩ = some (.int .i64 jo) ∧ W.cell? ⟨w.heap.size, 4, none⟩ = some (.int .i64 pa) ∧ W.cell? ⟨w.heap.size, 5, none⟩ = some (.int .i64 lo) ∧ W.cell? ⟨w.heap.size, 6, none⟩ = some (.int .i64 ba)) (by kernel_rfl) (by (simp only [World.cell?_drew]); exact ⟨k1, k2, k3, k4, k5, k6⟩) (fun hHeld => ?_)
  refine tk (i := 0) (v := ?_) rfl ?_ hHeld ?_
  rotate_left
  · intro W hSw; (try dsimp only at hSw); (try go_split_ands); go_simp; (try with_reducible rfl)
  simp only [List.getElem_toArray, List.getElem_cons_zero, Act.put, List.setIfInBounds_toArray, List.set_cons_zero, List.set_cons_succ]
  refine tk (i := 1) (v := ?_) rfl ?_ hHeld ?_
  rotate_left
  · intro W hSw; (try dsimp only at hSw); (try go_split_ands); go_simp; (try with_reducible rfl)
  simp only [List.getElem_toArray, List.getElem_cons_succ, List.getElem_cons_zero, Act.put, List.setIfInBounds_toArray, List.set_cons_zero, List.set_cons_succ]
  refine tk (i := 2) (v := ?_) rfl ?_ hHeld ?_
  rotate_left
  · intro W hSw; (try dsimp only at hSw); (try go_split_ands); go_simp; (try with_reducible rfl)
  simp only [List.getElem_toArray, List.getElem_cons_succ, List.getElem_cons_zero, Act.put, List.setIfInBounds_toArray, List.set_cons_zero, List.set_cons_succ]
  refine wpAnyH_ready (rs := [3]) (by kernel_rfl) (by simp) ?_
  refine AllReadyH.cons rfl (fun K hK => ?_) AllReadyH.nil
  go_simp
  refine (in_yes _ _ _ h1.1 h1.2 _).mono ?_
  rintro e w' ⟨rfl, rfl⟩
  refine hK.out _ _ (hHeld) (fun hH1 => ?_)
  clear hK K
  refine tk (i := 4) (v := ?_) rfl ?_ hH1 ?_
  rotate_left
  · intro W hSw; (try dsimp only at hSw); (try go_split_ands); go_simp; (try with_reducible rfl)
  simp only [List.getElem_toArray, List.getElem_cons_succ, List.getElem_cons_zero, Act.put, List.setIfInBounds_toArray, List.set_cons_zero, List.set_cons_succ]
  refine tk (i := 5) (v := ?_) rfl ?_ hH1 ?_
  rotate_left
  · intro W hSw; (try dsimp only at hSw); (try go_split_ands); go_simp; (try with_reducible rfl)
  simp only [List.getElem_toArray, List.getElem_cons_succ, List.getElem_cons_zero, Act.put, List.setIfInBounds_toArray, List.set_cons_zero, List.set_cons_succ]
  refine tk (i := 6) (v := ?_) rfl ?_ hH1 ?_
  rotate_left
  · intro W hSw; (try dsimp only at hSw); (try go_split_ands); go_simp; (try with_reducible rfl)
  simp only [List.getElem_toArray, List.getElem_cons_succ, List.getElem_cons_zero, Act.put, List.setIfInBounds_toArray, List.set_cons_zero, List.set_cons_succ]
  refine tk (i := 7) (v := ?_) rfl ?_ hH1 ?_
  rotate_left
  · intro W hSw; (try dsimp only at hSw); (try go_split_ands); go_simp; (try with_reducible rfl)
  simp only [List.getElem_toArray, List.getElem_cons_succ, List.getElem_cons_zero, Act.put, List.setIfInBounds_toArray, List.set_cons_zero, List.set_cons_succ]
  refine tk (i := 8) (v := ?_) rfl ?_ hH1 ?_
  rotate_left
  · intro W hSw; (try dsimp only at hSw); (try go_split_ands); go_simp; (try with_reducible rfl)
  simp only [List.getElem_toArray, List.getElem_cons_succ, List.getElem_cons_zero, Act.put, List.setIfInBounds_toArray, List.set_cons_zero, List.set_cons_succ]
  refine wpAnyH_ready (rs := [9]) (by kernel_rfl) (by simp) ?_
  refine AllReadyH.cons rfl (fun K hK => ?_) AllReadyH.nil
  go_simp
  refine (in_yes _ _ _ h2.1 h2.2 _).mono ?_
  rintro e w' ⟨rfl, rfl⟩
  refine hK.out _ _ (hH1) (fun hH2 => ?_)
  clear hK K
  refine tk (i := 10) (v := ?_) rfl ?_ hH2 ?_
  rotate_left
  · intro W hSw; (try dsimp only at hSw); (try go_split_ands); go_simp; (try with_reducible rfl)
  simp only [List.getElem_toArray, List.getElem_cons_succ, List.getElem_cons_zero, Act.put, List.setIfInBounds_toArray, List.set_cons_zero, List.set_cons_succ]
  refine wpAnyH_ready (rs := [11]) (by kernel_rfl) (by simp) ?_
  refine AllReadyH.cons rfl (fun K hK => ?_) AllReadyH.nil
  go_simp
  refine hK.out _ _ (hH2) (fun hH3 => ?_)
  clear hK K
  refine tk (i := 12) (v := ?_) rfl ?_ hH3 ?_
  rotate_left
  · intro W hSw; (try dsimp only at hSw); (try go_split_ands); go_simp; (try with_reducible rfl)
  simp only [List.getElem_toArray, List.getElem_cons_succ, List.getElem_cons_zero, Act.put, List.setIfInBounds_toArray, List.set_cons_zero, List.set_cons_succ]
  refine tk (i := 13) (v := ?_) rfl ?_ hH3 ?_
  rotate_left
  · intro W hSw; (try dsimp only at hSw); (try go_split_ands); go_simp; (try with_reducible rfl)
  simp only [List.getElem_toArray, List.getElem_cons_succ, List.getElem_cons_zero, Act.put, List.setIfInBounds_toArray, List.set_cons_zero, List.set_cons_succ]
  refine tk (i := 14) (v := ?_) rfl ?_ hH3 ?_
  rotate_left
  · intro W hSw; (try dsimp only at hSw); (try go_split_ands); go_simp; (try with_reducible rfl)
  simp only [List.getElem_toArray, List.getElem_cons_succ, List.getElem_cons_zero, Act.put, List.setIfInBounds_toArray, List.set_cons_zero, List.set_cons_succ]
  refine tk (i := 15) (v := ?_) rfl ?_ hH3 ?_
  rotate_left
  · intro W hSw; (try dsimp only at hSw); (try go_split_ands); go_simp; (try with_reducible rfl)
  simp only [List.getElem_toArray, List.getElem_cons_succ, List.getElem_cons_zero, Act.put, List.setIfInBounds_toArray, List.set_cons_zero, List.set_cons_succ]
  refine wpAnyH_ready (rs := [16]) (by kernel_rfl) (by simp) ?_
  refine AllReadyH.cons rfl (fun K hK => ?_) AllReadyH.nil
  go_simp
  refine (in_yes _ _ _ h3.1 h3.2 _).mono ?_
  rintro e w' ⟨rfl, rfl⟩
  refine hK.out _ _ (hH3) (fun hH4 => ?_)
  clear hK K
  refine tk (i := 17) (v := ?_) rfl ?_ hH4 ?_
  rotate_left
  · intro W hSw; (try dsimp only at hSw); (try go_split_ands); go_simp; (try with_reducible rfl)
  simp only [List.getElem_toArray, List.getElem_cons_succ, List.getElem_cons_zero, Act.put, List.setIfInBounds_toArray, List.set_cons_zero, List.set_cons_succ]
  refine wpAnyH_ready (rs := [18]) (by kernel_rfl) (by simp) ?_
  refine AllReadyH.cons rfl (fun K hK => ?_) AllReadyH.nil
  go_simp
  refine hK.out _ _ (hH4) (fun hH5 => ?_)
  clear hK K
  refine tk (i := 19) (v := ?_) rfl ?_ hH5 ?_
  rotate_left
  · intro W hSw; (try dsimp only at hSw); (try go_split_ands); go_simp; (try with_reducible rfl)
  simp only [List.getElem_toArray, List.getElem_cons_succ, List.getElem_cons_zero, Act.put, List.setIfInBounds_toArray, List.set_cons_zero, List.set_cons_succ]
  refine tk (i := 20) (v := ?_) rfl ?_ hH5 ?_
  rotate_left
  · intro W hSw; (try dsimp only at hSw); (try go_split_ands); go_simp; (try with_reducible rfl)
  simp only [List.getElem_toArray, List.getElem_cons_succ, List.getElem_cons_zero, Act.put, List.setIfInBounds_toArray, List.set_cons_zero, List.set_cons_succ]
  refine tk (i := 21) (v := ?_) rfl ?_ hH5 ?_
  rotate_left
  · intro W hSw; (try dsimp only at hSw); (try go_split_ands); go_simp; (try with_reducible rfl)
  simp only [List.getElem_toArray, List.getElem_cons_succ, List.getElem_cons_zero, Act.put, List.setIfInBounds_toArray, List.set_cons_zero, List.set_cons_succ]
  refine tk (i := 22) (v := ?_) rfl ?_ hH5 ?_
  rotate_left
  · intro W hSw; (try dsimp only at hSw); (try go_split_ands); go_simp; (try with_reducible rfl)
  simp only [List.getElem_toArray, List.getElem_cons_succ, List.getElem_cons_zero, Act.put, List.setIfInBounds_toArray, List.set_cons_zero, List.set_cons_succ]
  refine wpAnyH_ready (rs := [23]) (by kernel_rfl) (by simp) ?_
  refine AllReadyH.cons rfl (fun K hK => ?_) AllReadyH.nil
  go_simp
  refine (in_no _ _ _ hn _).mono ?_
  rintro e w' ⟨rfl, rfl⟩
  refine hK.out _ _ (hH5) (fun hH6 => ?_)
  clear hK K
  refine tk (i := 24) (v := ?_) rfl ?_ hH6 ?_
  rotate_left
  · intro W hSw; (try dsimp only at hSw); (try go_split_ands); go_simp; (try with_reducible rfl)
  simp only [List.getElem_toArray, List.getElem_cons_succ, List.getElem_cons_zero, Act.put, List.setIfInBounds_toArray, List.set_cons_zero, List.set_cons_succ]
  refine wpAnyH_ready (rs := [25]) (by kernel_rfl) (by simp) ?_
  refine AllReadyH.cons rfl (fun K hK => ?_) AllReadyH.nil
  go_simp
  refine hK.out _ _ (hH6) (fun hH7 => ?_)
  clear hK K
  refine tk (i := 26) (v := ?_) rfl ?_ hH7 ?_
  rotate_left
  · intro W hSw; (try dsimp only at hSw); (try go_split_ands); go_simp; (try with_reducible rfl)
  simp only [List.getElem_toArray, List.getElem_cons_succ, List.getElem_cons_zero, Act.put, List.setIfInBounds_toArray, List.set_cons_zero, List.set_cons_succ]
  refine' wpAnyH_take (i := 27) rfl (by kernel_rfl) (by kernel_rfl) (by kernel_rfl) (fun _ _ _ h => h) (Or.inr ⟨by rfl, rfl⟩) hH7 _
  simp only [List.getElem_toArray, List.getElem_cons_succ, List.getElem_cons_zero, Act.put, List.setIfInBounds_toArray, List.set_cons_zero, List.set_cons_succ]
  refine' wpAnyH_take (i := 28) rfl (by kernel_rfl) (by kernel_rfl) (by kernel_rfl) (fun _ _ _ h => h) (Or.inr ⟨by rfl, rfl⟩) hH7 _
  simp only [List.getElem_toArray, List.getElem_cons_succ, List.getElem_cons_zero, Act.put, List.setIfInBounds_toArray, List.set_cons_zero, List.set_cons_succ]
  refine' wpAnyH_take (i := 29) rfl (by kernel_rfl) (by kernel_rfl) (by kernel_rfl) (fun _ _ _ h => h) (Or.inr ⟨by rfl, rfl⟩) hH7 _
  simp only [List.getElem_toArray, List.getElem_cons_succ, List.getElem_cons_zero, Act.put, List.setIfInBounds_toArray, List.set_cons_zero, List.set_cons_succ]
  refine' wpAnyH_take (i := 30) rfl (by kernel_rfl) (by kernel_rfl) (by kernel_rfl) (fun _ _ _ h => h) (Or.inr ⟨by rfl, rfl⟩) hH7 _
  simp only [List.getElem_toArray, List.getElem_cons_succ, List.getElem_cons_zero, Act.put, List.setIfInBounds_toArray, List.set_cons_zero, List.set_cons_succ]
  refine' wpAnyH_take (i := 31) rfl (by kernel_rfl) (by kernel_rfl) (by kernel_rfl) (fun _ _ _ h => h) (Or.inr ⟨by rfl, rfl⟩) hH7 _
  simp only [List.getElem_toArray, List.getElem_cons_succ, List.getElem_cons_zero, Act.put, List.setIfInBounds_toArray, List.set_cons_zero, List.set_cons_succ]
  refine wpAnyH_ready (rs := [32]) (by kernel_rfl) (by simp) ?_
  refine AllReadyH.cons rfl (fun K hK => ?_) AllReadyH.nil
  go_simp
  refine hK.out _ _ (hH7) (fun hH8 => ?_)
  clear hK K
  refine tk (i := 33) (v := ?_) rfl ?_ hH8 ?_
  rotate_left
  · intro W hSw; (try dsimp only at hSw); (try go_split_ands); go_simp; (try with_reducible rfl)
  simp only [List.getElem_toArray, List.getElem_cons_succ, List.getElem_cons_zero, Act.put, List.setIfInBounds_toArray, List.set_cons_zero, List.set_cons_succ]
  refine' wpAnyH_take (i := 34) rfl (by kernel_rfl) (by kernel_rfl) (by kernel_rfl) (fun _ _ _ h => h) (Or.inr ⟨by rfl, rfl⟩) hH8 _
  simp only [List.getElem_toArray, List.getElem_cons_succ, List.getElem_cons_zero, Act.put, List.setIfInBounds_toArray, List.set_cons_zero, List.set_cons_succ]
  refine' wpAnyH_take (i := 35) rfl (by kernel_rfl) (by kernel_rfl) (by kernel_rfl) (fun _ _ _ h => h) (Or.inr ⟨by rfl, rfl⟩) hH8 _
  simp only [List.getElem_toArray, List.getElem_cons_succ, List.getElem_cons_zero, Act.put, List.setIfInBounds_toArray, List.set_cons_zero, List.set_cons_succ]
  refine' wpAnyH_take (i := 36) rfl (by kernel_rfl) (by kernel_rfl) (by kernel_rfl) (fun _ _ _ h => h) (Or.inr ⟨by rfl, rfl⟩) hH8 _
  simp only [List.getElem_toArray, List.getElem_cons_succ, List.getElem_cons_zero, Act.put, List.setIfInBounds_toArray, List.set_cons_zero, List.set_cons_succ]
  refine' wpAnyH_take (i := 37) rfl (by kernel_rfl) (by kernel_rfl) (by kernel_rfl) (fun _ _ _ h => h) (Or.inr ⟨by rfl, rfl⟩) hH8 _
  simp only [List.getElem_toArray, List.getElem_cons_succ, List.getElem_cons_zero, Act.put, List.setIfInBounds_toArray, List.set_cons_zero, List.set_cons_succ]
  refine' wpAnyH_take (i := 38) rfl (by kernel_rfl) (by kernel_rfl) (by kernel_rfl) (fun _ _ _ h => h) (Or.inr ⟨by rfl, rfl⟩) hH8 _
  simp only [List.getElem_toArray, List.getElem_cons_succ, List.getElem_cons_zero, Act.put, List.setIfInBounds_toArray, List.set_cons_zero, List.set_cons_succ]
  refine' wpAnyH_take (i := 39) rfl (by kernel_rfl) (by kernel_rfl) (by kernel_rfl) (fun _ _ _ h => h) (Or.inr ⟨by rfl, rfl⟩) hH8 _
  simp only [List.getElem_toArray, List.getElem_cons_succ, List.getElem_cons_zero, Act.put, List.setIfInBounds_toArray, List.set_cons_zero, List.set_cons_succ]
  refine' wpAnyH_take (i := 40) rfl (by kernel_rfl) (by kernel_rfl) (by kernel_rfl) (fun _ _ _ h => h) (Or.inr ⟨by rfl, rfl⟩) hH8 _
  simp only [List.getElem_toArray, List.getElem_cons_succ, List.getElem_cons_zero, Act.put, List.setIfInBounds_toArray, List.set_cons_zero, List.set_cons_succ]
  refine' wpAnyH_take (i := 41) rfl (by kernel_rfl) (by kernel_rfl) (by kernel_rfl) (fun _ _ _ h => h) (Or.inr ⟨by rfl, rfl⟩) hH8 _
  simp only [List.getElem_toArray, List.getElem_cons_succ, List.getElem_cons_zero, Act.put, List.setIfInBounds_toArray, List.set_cons_zero, List.set_cons_succ]
  refine wpAnyH_ready (rs := [42]) (by kernel_rfl) (by simp) ?_
  refine AllReadyH.cons rfl (fun K hK => ?_) AllReadyH.nil
  go_simp
  refine hK.out _ _ (hH8) (fun hH9 => ?_)
  clear hK K
  refine wpAnyH_done (by kernel_rfl) ?_ _
  obtain ⟨g1, hb1⟩ := HG.out
  have hud := (Upd.refl (fun _ => False) w1).drew
  have g2 := hud.blockv g1
  have hb2 : Below w.heap.size w w1.drew := hb1.drew
  generalize w1.drew = w2 at *
  have hth : w2.there (w.heap.size + 1) 0 7 := fun j hj => by
    rw [cell_of_block g2, frozen_of_block g2, Nat.zero_add]
    exact ⟨by rw [Array.getElem?_eq_getElem (by simpa using hj)]; rfl, rfl⟩
  have HB := Lib.hid hb2
  clear g1 hb1 g2 hb2 hud hHeld hH1 hH2 hH3 hH4 hH5 hH6 hH7 hH8 hH9 k1 k2 k3 k4 k5 k6 HG HW
  obtain ⟨L, hL⟩ : ∃ L : List Value, L = [.int .i64 0, .int .i64 0, .int .i64 0, .int .i64 0, .int .i64 0, .int .i64 0, .int .i64 0] := ⟨_, rfl⟩
  have h7 : L.length = 7 := by rw [hL]; rfl
  have hsz : L.toArray.size = 7 := by rw [hL]; rfl
  have hi : (Tryz.prog.info? 82).map (·.size) = some L.length := by rw [h7]; exact infoLay
  have hi2 : (Tryz.prog.info? 82).map (·.size) = some L.toArray.size := by rw [hsz]; exact infoLay
  have ho1 : L.toArray.all (·.oneCell') = true := all_oneCell_toArray (by intro v hv; rw [hL] at hv; simp at hv; subst hv; rfl)
  have hth3 : w2.there (w.heap.size + 1) 0 L.toArray.size := by rw [hsz]; exact hth
  have hth4 : w2.there (w.heap.size + 1) 0 L.length := by rw [h7]; exact hth
  replace hL := Lib.hid hL
  have HF := Lib.hid (And.intro hi (And.intro hi2 (And.intro ho1 (And.intro hth3 hth4))))
  clear h7 hi hi2 ho1 hth3 hth4 hth hsz
  go_wp2_with (first
    | (refine wpList_store_mid rfl _ _ _ rfl (w.heap.size + 1) 0 L.toArray rfl (by rw [hL.out]; rfl) HF.out.2.2.2.1 HF.out.2.1 HF.out.2.2.1 ?_)
    | fail)
  refine bodyPost_ret (results_mid2 rfl _ _ (w.heap.size + 1) 0 L _ rfl (World.rangeAt_setCells_same _ _ _ _ HF.out.2.2.2.2) Tryz.underlying82 rfl HF.out.1) rfl ⟨by rw [hL.out]; rfl, below_upd HB.out (upd_row _ (w.heap.size + 1) 0 _) (Nat.le_refl _) (fun k h => by omega)⟩
set_option maxRecDepth 100000 in
set_option maxHeartbeats 2000000 in
theorem plan_no5 (id bl sl jo pa lo ba : Int) (h1 : 1 ≤ bl ∧ bl ≤ 4096) (h2 : 1 ≤ sl ∧ sl ≤ 1024) (h3 : 4 ≤ jo ∧ jo ≤ 1024) (h4 : 1 ≤ lo ∧ lo ≤ 1024) (hn : ¬ (1 ≤ ba ∧ ba ≤ 64)) (w : World) :
    Calls Tryz.prog 34 #[.agg (superC id bl sl jo pa lo ba).toArray] w (PlanBad w) := by
  obtain ⟨w1, hw1⟩ : ∃ w1, w1 = (w.alloc (.cells (superC id bl sl jo pa lo ba).toArray 34)).alloc (.cells #[.int .i64 0, .int .i64 0, .int .i64 0, .int .i64 0, .int .i64 0, .int .i64 0, .int .i64 0] 82) := ⟨_, rfl⟩
  have g0 : w1.heap[w.heap.size]? = some (.cells (superC id bl sl jo pa lo ba).toArray 34 (0, 0)) := by rw [hw1]; exact (Below.heap_alloc _ _ _ (by simp)).trans (heap_alloc_last w _ rfl)
  have g1 : w1.heap[w.heap.size + 1]? = some (.cells #[.int .i64 0, .int .i64 0, .int .i64 0, .int .i64 0, .int .i64 0, .int .i64 0, .int .i64 0] 82 (0, 0)) := by rw [hw1]; exact heap_alloc_last _ _ (by simp)
  have hb1 : Below w.heap.size w w1 := by rw [hw1]; exact ((Below.refl _ w).alloc (Nat.le_refl _) _).alloc (by simp) _
  have k1 : w1.cell? ⟨w.heap.size, 1, none⟩ = some (.int .i64 bl) := cell_of_block g0 1
  have k2 : w1.cell? ⟨w.heap.size, 2, none⟩ = some (.int .i64 sl) := cell_of_block g0 2
  have k3 : w1.cell? ⟨w.heap.size, 3, none⟩ = some (.int .i64 jo) := cell_of_block g0 3
  have k4 : w1.cell? ⟨w.heap.size, 4, none⟩ = some (.int .i64 pa) := cell_of_block g0 4
  have k5 : w1.cell? ⟨w.heap.size, 5, none⟩ = some (.int .i64 lo) := cell_of_block g0 5
  have k6 : w1.cell? ⟨w.heap.size, 6, none⟩ = some (.int .i64 ba) := cell_of_block g0 6
  have HG := Lib.hid (And.intro g1 hb1)
  have HW := Lib.hid hw1
  clear g0 g1 hb1 hw1
  go_enter Tryz.func34, Tryz.ntmps34
  go_upto_region 2 with fail
  rw [← HW.out]
  refine wp_region_held_drew (S := fun W => W.cell? ⟨w.heap.size, 1, none⟩ = some (.int .i64 bl) ∧ W.cell? ⟨w.heap.size, 2, none⟩ = some (.int .i64 sl) ∧ W.cell? ⟨w.heap.size, 3, none⟩ = some (.int .i64 jo) ∧ W.cell? ⟨w.heap.size, 4, none⟩ = some (.int .i64 pa) ∧ W.cell? ⟨w.heap.size, 5, none⟩ = some (.int .i64 lo) ∧ W.cell? ⟨w.heap.size, 6, none⟩ = some (.int .i64 ba)) (by kernel_rfl) (by (simp only [World.cell?_drew]); exact ⟨k1, k2, k3, k4, k5, k6⟩) (fun hHeld => ?_)
  refine tk (i := 0) (v := ?_) rfl ?_ hHeld ?_
  rotate_left
  · intro W hSw; (try dsimp only at hSw); (try go_split_ands); go_simp; (try with_reducible rfl)
  simp only [List.getElem_toArray, List.getElem_cons_zero, Act.put, List.setIfInBounds_toArray, List.set_cons_zero, List.set_cons_succ]
  refine tk (i := 1) (v := ?_) rfl ?_ hHeld ?_
  rotate_left
  · intro W hSw; (try dsimp only at hSw); (try go_split_ands); go_simp; (try with_reducible rfl)
  simp only [List.getElem_toArray, List.getElem_cons_succ, List.getElem_cons_zero, Act.put, List.setIfInBounds_toArray, List.set_cons_zero, List.set_cons_succ]
  refine tk (i := 2) (v := ?_) rfl ?_ hHeld ?_
  rotate_left
  · intro W hSw; (try dsimp only at hSw); (try go_split_ands); go_simp; (try with_reducible rfl)
  simp only [List.getElem_toArray, List.getElem_cons_succ, List.getElem_cons_zero, Act.put, List.setIfInBounds_toArray, List.set_cons_zero, List.set_cons_succ]
  refine wpAnyH_ready (rs := [3]) (by kernel_rfl) (by simp) ?_
  refine AllReadyH.cons rfl (fun K hK => ?_) AllReadyH.nil
  go_simp
  refine (in_yes _ _ _ h1.1 h1.2 _).mono ?_
  rintro e w' ⟨rfl, rfl⟩
  refine hK.out _ _ (hHeld) (fun hH1 => ?_)
  clear hK K
  refine tk (i := 4) (v := ?_) rfl ?_ hH1 ?_
  rotate_left
  · intro W hSw; (try dsimp only at hSw); (try go_split_ands); go_simp; (try with_reducible rfl)
  simp only [List.getElem_toArray, List.getElem_cons_succ, List.getElem_cons_zero, Act.put, List.setIfInBounds_toArray, List.set_cons_zero, List.set_cons_succ]
  refine tk (i := 5) (v := ?_) rfl ?_ hH1 ?_
  rotate_left
  · intro W hSw; (try dsimp only at hSw); (try go_split_ands); go_simp; (try with_reducible rfl)
  simp only [List.getElem_toArray, List.getElem_cons_succ, List.getElem_cons_zero, Act.put, List.setIfInBounds_toArray, List.set_cons_zero, List.set_cons_succ]
  refine tk (i := 6) (v := ?_) rfl ?_ hH1 ?_
  rotate_left
  · intro W hSw; (try dsimp only at hSw); (try go_split_ands); go_simp; (try with_reducible rfl)
  simp only [List.getElem_toArray, List.getElem_cons_succ, List.getElem_cons_zero, Act.put, List.setIfInBounds_toArray, List.set_cons_zero, List.set_cons_succ]
  refine tk (i := 7) (v := ?_) rfl ?_ hH1 ?_
  rotate_left
  · intro W hSw; (try dsimp only at hSw); (try go_split_ands); go_simp; (try with_reducible rfl)
  simp only [List.getElem_toArray, List.getElem_cons_succ, List.getElem_cons_zero, Act.put, List.setIfInBounds_toArray, List.set_cons_zero, List.set_cons_succ]
  refine tk (i := 8) (v := ?_) rfl ?_ hH1 ?_
  rotate_left
  · intro W hSw; (try dsimp only at hSw); (try go_split_ands); go_simp; (try with_reducible rfl)
  simp only [List.getElem_toArray, List.getElem_cons_succ, List.getElem_cons_zero, Act.put, List.setIfInBounds_toArray, List.set_cons_zero, List.set_cons_succ]
  refine wpAnyH_ready (rs := [9]) (by kernel_rfl) (by simp) ?_
  refine AllReadyH.cons rfl (fun K hK => ?_) AllReadyH.nil
  go_simp
  refine (in_yes _ _ _ h2.1 h2.2 _).mono ?_
  rintro e w' ⟨rfl, rfl⟩
  refine hK.out _ _ (hH1) (fun hH2 => ?_)
  clear hK K
  refine tk (i := 10) (v := ?_) rfl ?_ hH2 ?_
  rotate_left
  · intro W hSw; (try dsimp only at hSw); (try go_split_ands); go_simp; (try with_reducible rfl)
  simp only [List.getElem_toArray, List.getElem_cons_succ, List.getElem_cons_zero, Act.put, List.setIfInBounds_toArray, List.set_cons_zero, List.set_cons_succ]
  refine wpAnyH_ready (rs := [11]) (by kernel_rfl) (by simp) ?_
  refine AllReadyH.cons rfl (fun K hK => ?_) AllReadyH.nil
  go_simp
  refine hK.out _ _ (hH2) (fun hH3 => ?_)
  clear hK K
  refine tk (i := 12) (v := ?_) rfl ?_ hH3 ?_
  rotate_left
  · intro W hSw; (try dsimp only at hSw); (try go_split_ands); go_simp; (try with_reducible rfl)
  simp only [List.getElem_toArray, List.getElem_cons_succ, List.getElem_cons_zero, Act.put, List.setIfInBounds_toArray, List.set_cons_zero, List.set_cons_succ]
  refine tk (i := 13) (v := ?_) rfl ?_ hH3 ?_
  rotate_left
  · intro W hSw; (try dsimp only at hSw); (try go_split_ands); go_simp; (try with_reducible rfl)
  simp only [List.getElem_toArray, List.getElem_cons_succ, List.getElem_cons_zero, Act.put, List.setIfInBounds_toArray, List.set_cons_zero, List.set_cons_succ]
  refine tk (i := 14) (v := ?_) rfl ?_ hH3 ?_
  rotate_left
  · intro W hSw; (try dsimp only at hSw); (try go_split_ands); go_simp; (try with_reducible rfl)
  simp only [List.getElem_toArray, List.getElem_cons_succ, List.getElem_cons_zero, Act.put, List.setIfInBounds_toArray, List.set_cons_zero, List.set_cons_succ]
  refine tk (i := 15) (v := ?_) rfl ?_ hH3 ?_
  rotate_left
  · intro W hSw; (try dsimp only at hSw); (try go_split_ands); go_simp; (try with_reducible rfl)
  simp only [List.getElem_toArray, List.getElem_cons_succ, List.getElem_cons_zero, Act.put, List.setIfInBounds_toArray, List.set_cons_zero, List.set_cons_succ]
  refine wpAnyH_ready (rs := [16]) (by kernel_rfl) (by simp) ?_
  refine AllReadyH.cons rfl (fun K hK => ?_) AllReadyH.nil
  go_simp
  refine (in_yes _ _ _ h3.1 h3.2 _).mono ?_
  rintro e w' ⟨rfl, rfl⟩
  refine hK.out _ _ (hH3) (fun hH4 => ?_)
  clear hK K
  refine tk (i := 17) (v := ?_) rfl ?_ hH4 ?_
  rotate_left
  · intro W hSw; (try dsimp only at hSw); (try go_split_ands); go_simp; (try with_reducible rfl)
  simp only [List.getElem_toArray, List.getElem_cons_succ, List.getElem_cons_zero, Act.put, List.setIfInBounds_toArray, List.set_cons_zero, List.set_cons_succ]
  refine wpAnyH_ready (rs := [18]) (by kernel_rfl) (by simp) ?_
  refine AllReadyH.cons rfl (fun K hK => ?_) AllReadyH.nil
  go_simp
  refine hK.out _ _ (hH4) (fun hH5 => ?_)
  clear hK K
  refine tk (i := 19) (v := ?_) rfl ?_ hH5 ?_
  rotate_left
  · intro W hSw; (try dsimp only at hSw); (try go_split_ands); go_simp; (try with_reducible rfl)
  simp only [List.getElem_toArray, List.getElem_cons_succ, List.getElem_cons_zero, Act.put, List.setIfInBounds_toArray, List.set_cons_zero, List.set_cons_succ]
  refine tk (i := 20) (v := ?_) rfl ?_ hH5 ?_
  rotate_left
  · intro W hSw; (try dsimp only at hSw); (try go_split_ands); go_simp; (try with_reducible rfl)
  simp only [List.getElem_toArray, List.getElem_cons_succ, List.getElem_cons_zero, Act.put, List.setIfInBounds_toArray, List.set_cons_zero, List.set_cons_succ]
  refine tk (i := 21) (v := ?_) rfl ?_ hH5 ?_
  rotate_left
  · intro W hSw; (try dsimp only at hSw); (try go_split_ands); go_simp; (try with_reducible rfl)
  simp only [List.getElem_toArray, List.getElem_cons_succ, List.getElem_cons_zero, Act.put, List.setIfInBounds_toArray, List.set_cons_zero, List.set_cons_succ]
  refine tk (i := 22) (v := ?_) rfl ?_ hH5 ?_
  rotate_left
  · intro W hSw; (try dsimp only at hSw); (try go_split_ands); go_simp; (try with_reducible rfl)
  simp only [List.getElem_toArray, List.getElem_cons_succ, List.getElem_cons_zero, Act.put, List.setIfInBounds_toArray, List.set_cons_zero, List.set_cons_succ]
  refine wpAnyH_ready (rs := [23]) (by kernel_rfl) (by simp) ?_
  refine AllReadyH.cons rfl (fun K hK => ?_) AllReadyH.nil
  go_simp
  refine (in_yes _ _ _ h4.1 h4.2 _).mono ?_
  rintro e w' ⟨rfl, rfl⟩
  refine hK.out _ _ (hH5) (fun hH6 => ?_)
  clear hK K
  refine tk (i := 24) (v := ?_) rfl ?_ hH6 ?_
  rotate_left
  · intro W hSw; (try dsimp only at hSw); (try go_split_ands); go_simp; (try with_reducible rfl)
  simp only [List.getElem_toArray, List.getElem_cons_succ, List.getElem_cons_zero, Act.put, List.setIfInBounds_toArray, List.set_cons_zero, List.set_cons_succ]
  refine wpAnyH_ready (rs := [25]) (by kernel_rfl) (by simp) ?_
  refine AllReadyH.cons rfl (fun K hK => ?_) AllReadyH.nil
  go_simp
  refine hK.out _ _ (hH6) (fun hH7 => ?_)
  clear hK K
  refine tk (i := 26) (v := ?_) rfl ?_ hH7 ?_
  rotate_left
  · intro W hSw; (try dsimp only at hSw); (try go_split_ands); go_simp; (try with_reducible rfl)
  simp only [List.getElem_toArray, List.getElem_cons_succ, List.getElem_cons_zero, Act.put, List.setIfInBounds_toArray, List.set_cons_zero, List.set_cons_succ]
  refine tk (i := 27) (v := ?_) rfl ?_ hH7 ?_
  rotate_left
  · intro W hSw; (try dsimp only at hSw); (try go_split_ands); go_simp; (try with_reducible rfl)
  simp only [List.getElem_toArray, List.getElem_cons_succ, List.getElem_cons_zero, Act.put, List.setIfInBounds_toArray, List.set_cons_zero, List.set_cons_succ]
  refine tk (i := 28) (v := ?_) rfl ?_ hH7 ?_
  rotate_left
  · intro W hSw; (try dsimp only at hSw); (try go_split_ands); go_simp; (try with_reducible rfl)
  simp only [List.getElem_toArray, List.getElem_cons_succ, List.getElem_cons_zero, Act.put, List.setIfInBounds_toArray, List.set_cons_zero, List.set_cons_succ]
  refine tk (i := 29) (v := ?_) rfl ?_ hH7 ?_
  rotate_left
  · intro W hSw; (try dsimp only at hSw); (try go_split_ands); go_simp; (try with_reducible rfl)
  simp only [List.getElem_toArray, List.getElem_cons_succ, List.getElem_cons_zero, Act.put, List.setIfInBounds_toArray, List.set_cons_zero, List.set_cons_succ]
  refine wpAnyH_ready (rs := [30]) (by kernel_rfl) (by simp) ?_
  refine AllReadyH.cons rfl (fun K hK => ?_) AllReadyH.nil
  go_simp
  refine (in_no _ _ _ hn _).mono ?_
  rintro e w' ⟨rfl, rfl⟩
  refine hK.out _ _ (hH7) (fun hH8 => ?_)
  clear hK K
  refine tk (i := 31) (v := ?_) rfl ?_ hH8 ?_
  rotate_left
  · intro W hSw; (try dsimp only at hSw); (try go_split_ands); go_simp; (try with_reducible rfl)
  simp only [List.getElem_toArray, List.getElem_cons_succ, List.getElem_cons_zero, Act.put, List.setIfInBounds_toArray, List.set_cons_zero, List.set_cons_succ]
  refine wpAnyH_ready (rs := [32]) (by kernel_rfl) (by simp) ?_
  refine AllReadyH.cons rfl (fun K hK => ?_) AllReadyH.nil
  go_simp
  refine hK.out _ _ (hH8) (fun hH9 => ?_)
  clear hK K
  refine tk (i := 33) (v := ?_) rfl ?_ hH9 ?_
  rotate_left
  · intro W hSw; (try dsimp only at hSw); (try go_split_ands); go_simp; (try with_reducible rfl)
  simp only [List.getElem_toArray, List.getElem_cons_succ, List.getElem_cons_zero, Act.put, List.setIfInBounds_toArray, List.set_cons_zero, List.set_cons_succ]
  refine' wpAnyH_take (i := 34) rfl (by kernel_rfl) (by kernel_rfl) (by kernel_rfl) (fun _ _ _ h => h) (Or.inr ⟨by rfl, rfl⟩) hH9 _
  simp only [List.getElem_toArray, List.getElem_cons_succ, List.getElem_cons_zero, Act.put, List.setIfInBounds_toArray, List.set_cons_zero, List.set_cons_succ]
  refine' wpAnyH_take (i := 35) rfl (by kernel_rfl) (by kernel_rfl) (by kernel_rfl) (fun _ _ _ h => h) (Or.inr ⟨by rfl, rfl⟩) hH9 _
  simp only [List.getElem_toArray, List.getElem_cons_succ, List.getElem_cons_zero, Act.put, List.setIfInBounds_toArray, List.set_cons_zero, List.set_cons_succ]
  refine' wpAnyH_take (i := 36) rfl (by kernel_rfl) (by kernel_rfl) (by kernel_rfl) (fun _ _ _ h => h) (Or.inr ⟨by rfl, rfl⟩) hH9 _
  simp only [List.getElem_toArray, List.getElem_cons_succ, List.getElem_cons_zero, Act.put, List.setIfInBounds_toArray, List.set_cons_zero, List.set_cons_succ]
  refine' wpAnyH_take (i := 37) rfl (by kernel_rfl) (by kernel_rfl) (by kernel_rfl) (fun _ _ _ h => h) (Or.inr ⟨by rfl, rfl⟩) hH9 _
  simp only [List.getElem_toArray, List.getElem_cons_succ, List.getElem_cons_zero, Act.put, List.setIfInBounds_toArray, List.set_cons_zero, List.set_cons_succ]
  refine' wpAnyH_take (i := 38) rfl (by kernel_rfl) (by kernel_rfl) (by kernel_rfl) (fun _ _ _ h => h) (Or.inr ⟨by rfl, rfl⟩) hH9 _
  simp only [List.getElem_toArray, List.getElem_cons_succ, List.getElem_cons_zero, Act.put, List.setIfInBounds_toArray, List.set_cons_zero, List.set_cons_succ]
  refine' wpAnyH_take (i := 39) rfl (by kernel_rfl) (by kernel_rfl) (by kernel_rfl) (fun _ _ _ h => h) (Or.inr ⟨by rfl, rfl⟩) hH9 _
  simp only [List.getElem_toArray, List.getElem_cons_succ, List.getElem_cons_zero, Act.put, List.setIfInBounds_toArray, List.set_cons_zero, List.set_cons_succ]
  refine' wpAnyH_take (i := 40) rfl (by kernel_rfl) (by kernel_rfl) (by kernel_rfl) (fun _ _ _ h => h) (Or.inr ⟨by rfl, rfl⟩) hH9 _
  simp only [List.getElem_toArray, List.getElem_cons_succ, List.getElem_cons_zero, Act.put, List.setIfInBounds_toArray, List.set_cons_zero, List.set_cons_succ]
  refine' wpAnyH_take (i := 41) rfl (by kernel_rfl) (by kernel_rfl) (by kernel_rfl) (fun _ _ _ h => h) (Or.inr ⟨by rfl, rfl⟩) hH9 _
  simp only [List.getElem_toArray, List.getElem_cons_succ, List.getElem_cons_zero, Act.put, List.setIfInBounds_toArray, List.set_cons_zero, List.set_cons_succ]
  refine wpAnyH_ready (rs := [42]) (by kernel_rfl) (by simp) ?_
  refine AllReadyH.cons rfl (fun K hK => ?_) AllReadyH.nil
  go_simp
  refine hK.out _ _ (hH9) (fun hH10 => ?_)
  clear hK K
  refine wpAnyH_done (by kernel_rfl) ?_ _
  obtain ⟨g1, hb1⟩ := HG.out
  have hud := (Upd.refl (fun _ => False) w1).drew
  have g2 := hud.blockv g1
  have hb2 : Below w.heap.size w w1.drew := hb1.drew
  generalize w1.drew = w2 at *
  have hth : w2.there (w.heap.size + 1) 0 7 := fun j hj => by
    rw [cell_of_block g2, frozen_of_block g2, Nat.zero_add]
    exact ⟨by rw [Array.getElem?_eq_getElem (by simpa using hj)]; rfl, rfl⟩
  have HB := Lib.hid hb2
  clear g1 hb1 g2 hb2 hud hHeld hH1 hH2 hH3 hH4 hH5 hH6 hH7 hH8 hH9 hH10 k1 k2 k3 k4 k5 k6 HG HW
  obtain ⟨L, hL⟩ : ∃ L : List Value, L = [.int .i64 0, .int .i64 0, .int .i64 0, .int .i64 0, .int .i64 0, .int .i64 0, .int .i64 0] := ⟨_, rfl⟩
  have h7 : L.length = 7 := by rw [hL]; rfl
  have hsz : L.toArray.size = 7 := by rw [hL]; rfl
  have hi : (Tryz.prog.info? 82).map (·.size) = some L.length := by rw [h7]; exact infoLay
  have hi2 : (Tryz.prog.info? 82).map (·.size) = some L.toArray.size := by rw [hsz]; exact infoLay
  have ho1 : L.toArray.all (·.oneCell') = true := all_oneCell_toArray (by intro v hv; rw [hL] at hv; simp at hv; subst hv; rfl)
  have hth3 : w2.there (w.heap.size + 1) 0 L.toArray.size := by rw [hsz]; exact hth
  have hth4 : w2.there (w.heap.size + 1) 0 L.length := by rw [h7]; exact hth
  replace hL := Lib.hid hL
  have HF := Lib.hid (And.intro hi (And.intro hi2 (And.intro ho1 (And.intro hth3 hth4))))
  clear h7 hi hi2 ho1 hth3 hth4 hth hsz
  go_wp2_with (first
    | (refine wpList_store_mid rfl _ _ _ rfl (w.heap.size + 1) 0 L.toArray rfl (by rw [hL.out]; rfl) HF.out.2.2.2.1 HF.out.2.1 HF.out.2.2.1 ?_)
    | fail)
  refine bodyPost_ret (results_mid2 rfl _ _ (w.heap.size + 1) 0 L _ rfl (World.rangeAt_setCells_same _ _ _ _ HF.out.2.2.2.2) Tryz.underlying82 rfl HF.out.1) rfl ⟨by rw [hL.out]; rfl, below_upd HB.out (upd_row _ (w.heap.size + 1) 0 _) (Nat.le_refl _) (fun k h => by omega)⟩
set_option maxRecDepth 100000 in
set_option maxHeartbeats 2000000 in
theorem plan_no6 (id bl sl jo pa lo ba : Int) (h1 : 1 ≤ bl ∧ bl ≤ 4096) (h2 : 1 ≤ sl ∧ sl ≤ 1024) (h3 : 4 ≤ jo ∧ jo ≤ 1024) (h4 : 1 ≤ lo ∧ lo ≤ 1024) (h5 : 1 ≤ ba ∧ ba ≤ 64) (hn : ¬ ((((sl.toNat - 1) / 4 + 1 : Nat) : Int) ≤ pa ∧ pa ≤ 4096)) (w : World) :
    Calls Tryz.prog 34 #[.agg (superC id bl sl jo pa lo ba).toArray] w (PlanBad w) := by
  obtain ⟨w1, hw1⟩ : ∃ w1, w1 = (w.alloc (.cells (superC id bl sl jo pa lo ba).toArray 34)).alloc (.cells #[.int .i64 0, .int .i64 0, .int .i64 0, .int .i64 0, .int .i64 0, .int .i64 0, .int .i64 0] 82) := ⟨_, rfl⟩
  have g0 : w1.heap[w.heap.size]? = some (.cells (superC id bl sl jo pa lo ba).toArray 34 (0, 0)) := by rw [hw1]; exact (Below.heap_alloc _ _ _ (by simp)).trans (heap_alloc_last w _ rfl)
  have g1 : w1.heap[w.heap.size + 1]? = some (.cells #[.int .i64 0, .int .i64 0, .int .i64 0, .int .i64 0, .int .i64 0, .int .i64 0, .int .i64 0] 82 (0, 0)) := by rw [hw1]; exact heap_alloc_last _ _ (by simp)
  have hb1 : Below w.heap.size w w1 := by rw [hw1]; exact ((Below.refl _ w).alloc (Nat.le_refl _) _).alloc (by simp) _
  have k1 : w1.cell? ⟨w.heap.size, 1, none⟩ = some (.int .i64 bl) := cell_of_block g0 1
  have k2 : w1.cell? ⟨w.heap.size, 2, none⟩ = some (.int .i64 sl) := cell_of_block g0 2
  have k3 : w1.cell? ⟨w.heap.size, 3, none⟩ = some (.int .i64 jo) := cell_of_block g0 3
  have k4 : w1.cell? ⟨w.heap.size, 4, none⟩ = some (.int .i64 pa) := cell_of_block g0 4
  have k5 : w1.cell? ⟨w.heap.size, 5, none⟩ = some (.int .i64 lo) := cell_of_block g0 5
  have k6 : w1.cell? ⟨w.heap.size, 6, none⟩ = some (.int .i64 ba) := cell_of_block g0 6
  have HG := Lib.hid (And.intro g1 hb1)
  have HW := Lib.hid hw1
  clear g0 g1 hb1 hw1
  go_enter Tryz.func34, Tryz.ntmps34
  go_upto_region 2 with fail
  rw [← HW.out]
  have HND : Hid (∀ W, Calls Tryz.prog 56 #[.int .i64 sl] W fun e w' => e = .returned (.int .i64 (((sl.toNat - 1) / 4 + 1 : Nat) : Int)) ∧ W = w') := by
    intro W
    have := need_any sl.toNat (by omega) (by omega) W
    rwa [Int.toNat_of_nonneg (by omega)] at this
  generalize (sl.toNat - 1) / 4 + 1 = nd at *
  refine wp_region_held_drew (S := fun W => W.cell? ⟨w.heap.size, 1, none⟩ = some (.int .i64 bl) ∧ W.cell? ⟨w.heap.size, 2, none⟩ = some (.int .i64 sl) ∧ W.cell? ⟨w.heap.size, 3, none⟩ = some (.int .i64 jo) ∧ W.cell? ⟨w.heap.size, 4, none⟩ = some (.int .i64 pa) ∧ W.cell? ⟨w.heap.size, 5, none⟩ = some (.int .i64 lo) ∧ W.cell? ⟨w.heap.size, 6, none⟩ = some (.int .i64 ba)) (by kernel_rfl) (by (simp only [World.cell?_drew]); exact ⟨k1, k2, k3, k4, k5, k6⟩) (fun hHeld => ?_)
  refine tk (i := 0) (v := ?_) rfl ?_ hHeld ?_
  rotate_left
  · intro W hSw; (try dsimp only at hSw); (try go_split_ands); go_simp; (try with_reducible rfl)
  simp only [List.getElem_toArray, List.getElem_cons_zero, Act.put, List.setIfInBounds_toArray, List.set_cons_zero, List.set_cons_succ]
  refine tk (i := 1) (v := ?_) rfl ?_ hHeld ?_
  rotate_left
  · intro W hSw; (try dsimp only at hSw); (try go_split_ands); go_simp; (try with_reducible rfl)
  simp only [List.getElem_toArray, List.getElem_cons_succ, List.getElem_cons_zero, Act.put, List.setIfInBounds_toArray, List.set_cons_zero, List.set_cons_succ]
  refine tk (i := 2) (v := ?_) rfl ?_ hHeld ?_
  rotate_left
  · intro W hSw; (try dsimp only at hSw); (try go_split_ands); go_simp; (try with_reducible rfl)
  simp only [List.getElem_toArray, List.getElem_cons_succ, List.getElem_cons_zero, Act.put, List.setIfInBounds_toArray, List.set_cons_zero, List.set_cons_succ]
  refine wpAnyH_ready (rs := [3]) (by kernel_rfl) (by simp) ?_
  refine AllReadyH.cons rfl (fun K hK => ?_) AllReadyH.nil
  go_simp
  refine (in_yes _ _ _ h1.1 h1.2 _).mono ?_
  rintro e w' ⟨rfl, rfl⟩
  refine hK.out _ _ (hHeld) (fun hH1 => ?_)
  clear hK K
  refine tk (i := 4) (v := ?_) rfl ?_ hH1 ?_
  rotate_left
  · intro W hSw; (try dsimp only at hSw); (try go_split_ands); go_simp; (try with_reducible rfl)
  simp only [List.getElem_toArray, List.getElem_cons_succ, List.getElem_cons_zero, Act.put, List.setIfInBounds_toArray, List.set_cons_zero, List.set_cons_succ]
  refine tk (i := 5) (v := ?_) rfl ?_ hH1 ?_
  rotate_left
  · intro W hSw; (try dsimp only at hSw); (try go_split_ands); go_simp; (try with_reducible rfl)
  simp only [List.getElem_toArray, List.getElem_cons_succ, List.getElem_cons_zero, Act.put, List.setIfInBounds_toArray, List.set_cons_zero, List.set_cons_succ]
  refine tk (i := 6) (v := ?_) rfl ?_ hH1 ?_
  rotate_left
  · intro W hSw; (try dsimp only at hSw); (try go_split_ands); go_simp; (try with_reducible rfl)
  simp only [List.getElem_toArray, List.getElem_cons_succ, List.getElem_cons_zero, Act.put, List.setIfInBounds_toArray, List.set_cons_zero, List.set_cons_succ]
  refine tk (i := 7) (v := ?_) rfl ?_ hH1 ?_
  rotate_left
  · intro W hSw; (try dsimp only at hSw); (try go_split_ands); go_simp; (try with_reducible rfl)
  simp only [List.getElem_toArray, List.getElem_cons_succ, List.getElem_cons_zero, Act.put, List.setIfInBounds_toArray, List.set_cons_zero, List.set_cons_succ]
  refine tk (i := 8) (v := ?_) rfl ?_ hH1 ?_
  rotate_left
  · intro W hSw; (try dsimp only at hSw); (try go_split_ands); go_simp; (try with_reducible rfl)
  simp only [List.getElem_toArray, List.getElem_cons_succ, List.getElem_cons_zero, Act.put, List.setIfInBounds_toArray, List.set_cons_zero, List.set_cons_succ]
  refine wpAnyH_ready (rs := [9]) (by kernel_rfl) (by simp) ?_
  refine AllReadyH.cons rfl (fun K hK => ?_) AllReadyH.nil
  go_simp
  refine (in_yes _ _ _ h2.1 h2.2 _).mono ?_
  rintro e w' ⟨rfl, rfl⟩
  refine hK.out _ _ (hH1) (fun hH2 => ?_)
  clear hK K
  refine tk (i := 10) (v := ?_) rfl ?_ hH2 ?_
  rotate_left
  · intro W hSw; (try dsimp only at hSw); (try go_split_ands); go_simp; (try with_reducible rfl)
  simp only [List.getElem_toArray, List.getElem_cons_succ, List.getElem_cons_zero, Act.put, List.setIfInBounds_toArray, List.set_cons_zero, List.set_cons_succ]
  refine wpAnyH_ready (rs := [11]) (by kernel_rfl) (by simp) ?_
  refine AllReadyH.cons rfl (fun K hK => ?_) AllReadyH.nil
  go_simp
  refine hK.out _ _ (hH2) (fun hH3 => ?_)
  clear hK K
  refine tk (i := 12) (v := ?_) rfl ?_ hH3 ?_
  rotate_left
  · intro W hSw; (try dsimp only at hSw); (try go_split_ands); go_simp; (try with_reducible rfl)
  simp only [List.getElem_toArray, List.getElem_cons_succ, List.getElem_cons_zero, Act.put, List.setIfInBounds_toArray, List.set_cons_zero, List.set_cons_succ]
  refine tk (i := 13) (v := ?_) rfl ?_ hH3 ?_
  rotate_left
  · intro W hSw; (try dsimp only at hSw); (try go_split_ands); go_simp; (try with_reducible rfl)
  simp only [List.getElem_toArray, List.getElem_cons_succ, List.getElem_cons_zero, Act.put, List.setIfInBounds_toArray, List.set_cons_zero, List.set_cons_succ]
  refine tk (i := 14) (v := ?_) rfl ?_ hH3 ?_
  rotate_left
  · intro W hSw; (try dsimp only at hSw); (try go_split_ands); go_simp; (try with_reducible rfl)
  simp only [List.getElem_toArray, List.getElem_cons_succ, List.getElem_cons_zero, Act.put, List.setIfInBounds_toArray, List.set_cons_zero, List.set_cons_succ]
  refine tk (i := 15) (v := ?_) rfl ?_ hH3 ?_
  rotate_left
  · intro W hSw; (try dsimp only at hSw); (try go_split_ands); go_simp; (try with_reducible rfl)
  simp only [List.getElem_toArray, List.getElem_cons_succ, List.getElem_cons_zero, Act.put, List.setIfInBounds_toArray, List.set_cons_zero, List.set_cons_succ]
  refine wpAnyH_ready (rs := [16]) (by kernel_rfl) (by simp) ?_
  refine AllReadyH.cons rfl (fun K hK => ?_) AllReadyH.nil
  go_simp
  refine (in_yes _ _ _ h3.1 h3.2 _).mono ?_
  rintro e w' ⟨rfl, rfl⟩
  refine hK.out _ _ (hH3) (fun hH4 => ?_)
  clear hK K
  refine tk (i := 17) (v := ?_) rfl ?_ hH4 ?_
  rotate_left
  · intro W hSw; (try dsimp only at hSw); (try go_split_ands); go_simp; (try with_reducible rfl)
  simp only [List.getElem_toArray, List.getElem_cons_succ, List.getElem_cons_zero, Act.put, List.setIfInBounds_toArray, List.set_cons_zero, List.set_cons_succ]
  refine wpAnyH_ready (rs := [18]) (by kernel_rfl) (by simp) ?_
  refine AllReadyH.cons rfl (fun K hK => ?_) AllReadyH.nil
  go_simp
  refine hK.out _ _ (hH4) (fun hH5 => ?_)
  clear hK K
  refine tk (i := 19) (v := ?_) rfl ?_ hH5 ?_
  rotate_left
  · intro W hSw; (try dsimp only at hSw); (try go_split_ands); go_simp; (try with_reducible rfl)
  simp only [List.getElem_toArray, List.getElem_cons_succ, List.getElem_cons_zero, Act.put, List.setIfInBounds_toArray, List.set_cons_zero, List.set_cons_succ]
  refine tk (i := 20) (v := ?_) rfl ?_ hH5 ?_
  rotate_left
  · intro W hSw; (try dsimp only at hSw); (try go_split_ands); go_simp; (try with_reducible rfl)
  simp only [List.getElem_toArray, List.getElem_cons_succ, List.getElem_cons_zero, Act.put, List.setIfInBounds_toArray, List.set_cons_zero, List.set_cons_succ]
  refine tk (i := 21) (v := ?_) rfl ?_ hH5 ?_
  rotate_left
  · intro W hSw; (try dsimp only at hSw); (try go_split_ands); go_simp; (try with_reducible rfl)
  simp only [List.getElem_toArray, List.getElem_cons_succ, List.getElem_cons_zero, Act.put, List.setIfInBounds_toArray, List.set_cons_zero, List.set_cons_succ]
  refine tk (i := 22) (v := ?_) rfl ?_ hH5 ?_
  rotate_left
  · intro W hSw; (try dsimp only at hSw); (try go_split_ands); go_simp; (try with_reducible rfl)
  simp only [List.getElem_toArray, List.getElem_cons_succ, List.getElem_cons_zero, Act.put, List.setIfInBounds_toArray, List.set_cons_zero, List.set_cons_succ]
  refine wpAnyH_ready (rs := [23]) (by kernel_rfl) (by simp) ?_
  refine AllReadyH.cons rfl (fun K hK => ?_) AllReadyH.nil
  go_simp
  refine (in_yes _ _ _ h4.1 h4.2 _).mono ?_
  rintro e w' ⟨rfl, rfl⟩
  refine hK.out _ _ (hH5) (fun hH6 => ?_)
  clear hK K
  refine tk (i := 24) (v := ?_) rfl ?_ hH6 ?_
  rotate_left
  · intro W hSw; (try dsimp only at hSw); (try go_split_ands); go_simp; (try with_reducible rfl)
  simp only [List.getElem_toArray, List.getElem_cons_succ, List.getElem_cons_zero, Act.put, List.setIfInBounds_toArray, List.set_cons_zero, List.set_cons_succ]
  refine wpAnyH_ready (rs := [25]) (by kernel_rfl) (by simp) ?_
  refine AllReadyH.cons rfl (fun K hK => ?_) AllReadyH.nil
  go_simp
  refine hK.out _ _ (hH6) (fun hH7 => ?_)
  clear hK K
  refine tk (i := 26) (v := ?_) rfl ?_ hH7 ?_
  rotate_left
  · intro W hSw; (try dsimp only at hSw); (try go_split_ands); go_simp; (try with_reducible rfl)
  simp only [List.getElem_toArray, List.getElem_cons_succ, List.getElem_cons_zero, Act.put, List.setIfInBounds_toArray, List.set_cons_zero, List.set_cons_succ]
  refine tk (i := 27) (v := ?_) rfl ?_ hH7 ?_
  rotate_left
  · intro W hSw; (try dsimp only at hSw); (try go_split_ands); go_simp; (try with_reducible rfl)
  simp only [List.getElem_toArray, List.getElem_cons_succ, List.getElem_cons_zero, Act.put, List.setIfInBounds_toArray, List.set_cons_zero, List.set_cons_succ]
  refine tk (i := 28) (v := ?_) rfl ?_ hH7 ?_
  rotate_left
  · intro W hSw; (try dsimp only at hSw); (try go_split_ands); go_simp; (try with_reducible rfl)
  simp only [List.getElem_toArray, List.getElem_cons_succ, List.getElem_cons_zero, Act.put, List.setIfInBounds_toArray, List.set_cons_zero, List.set_cons_succ]
  refine tk (i := 29) (v := ?_) rfl ?_ hH7 ?_
  rotate_left
  · intro W hSw; (try dsimp only at hSw); (try go_split_ands); go_simp; (try with_reducible rfl)
  simp only [List.getElem_toArray, List.getElem_cons_succ, List.getElem_cons_zero, Act.put, List.setIfInBounds_toArray, List.set_cons_zero, List.set_cons_succ]
  refine wpAnyH_ready (rs := [30]) (by kernel_rfl) (by simp) ?_
  refine AllReadyH.cons rfl (fun K hK => ?_) AllReadyH.nil
  go_simp
  refine (in_yes _ _ _ h5.1 h5.2 _).mono ?_
  rintro e w' ⟨rfl, rfl⟩
  refine hK.out _ _ (hH7) (fun hH8 => ?_)
  clear hK K
  refine tk (i := 31) (v := ?_) rfl ?_ hH8 ?_
  rotate_left
  · intro W hSw; (try dsimp only at hSw); (try go_split_ands); go_simp; (try with_reducible rfl)
  simp only [List.getElem_toArray, List.getElem_cons_succ, List.getElem_cons_zero, Act.put, List.setIfInBounds_toArray, List.set_cons_zero, List.set_cons_succ]
  refine wpAnyH_ready (rs := [32]) (by kernel_rfl) (by simp) ?_
  refine AllReadyH.cons rfl (fun K hK => ?_) AllReadyH.nil
  go_simp
  refine hK.out _ _ (hH8) (fun hH9 => ?_)
  clear hK K
  refine tk (i := 33) (v := ?_) rfl ?_ hH9 ?_
  rotate_left
  · intro W hSw; (try dsimp only at hSw); (try go_split_ands); go_simp; (try with_reducible rfl)
  simp only [List.getElem_toArray, List.getElem_cons_succ, List.getElem_cons_zero, Act.put, List.setIfInBounds_toArray, List.set_cons_zero, List.set_cons_succ]
  refine tk (i := 34) (v := ?_) rfl ?_ hH9 ?_
  rotate_left
  · intro W hSw; (try dsimp only at hSw); (try go_split_ands); go_simp; (try with_reducible rfl)
  simp only [List.getElem_toArray, List.getElem_cons_succ, List.getElem_cons_zero, Act.put, List.setIfInBounds_toArray, List.set_cons_zero, List.set_cons_succ]
  refine tk (i := 35) (v := ?_) rfl ?_ hH9 ?_
  rotate_left
  · intro W hSw; (try dsimp only at hSw); (try go_split_ands); go_simp; (try with_reducible rfl)
  simp only [List.getElem_toArray, List.getElem_cons_succ, List.getElem_cons_zero, Act.put, List.setIfInBounds_toArray, List.set_cons_zero, List.set_cons_succ]
  refine tk (i := 36) (v := ?_) rfl ?_ hH9 ?_
  rotate_left
  · intro W hSw; (try dsimp only at hSw); (try go_split_ands); go_simp; (try with_reducible rfl)
  simp only [List.getElem_toArray, List.getElem_cons_succ, List.getElem_cons_zero, Act.put, List.setIfInBounds_toArray, List.set_cons_zero, List.set_cons_succ]
  refine tk (i := 37) (v := ?_) rfl ?_ hH9 ?_
  rotate_left
  · intro W hSw; (try dsimp only at hSw); (try go_split_ands); go_simp; (try with_reducible rfl)
  simp only [List.getElem_toArray, List.getElem_cons_succ, List.getElem_cons_zero, Act.put, List.setIfInBounds_toArray, List.set_cons_zero, List.set_cons_succ]
  refine tk (i := 38) (v := ?_) rfl ?_ hH9 ?_
  rotate_left
  · intro W hSw; (try dsimp only at hSw); (try go_split_ands); go_simp; (try with_reducible rfl)
  simp only [List.getElem_toArray, List.getElem_cons_succ, List.getElem_cons_zero, Act.put, List.setIfInBounds_toArray, List.set_cons_zero, List.set_cons_succ]
  refine wpAnyH_ready (rs := [39]) (by kernel_rfl) (by simp) ?_
  refine AllReadyH.cons rfl (fun K hK => ?_) AllReadyH.nil
  go_simp
  refine (HND.out _).mono ?_
  rintro e w' ⟨rfl, rfl⟩
  refine hK.out _ _ (hH9) (fun hH10 => ?_)
  clear hK K
  refine wpAnyH_ready (rs := [40]) (by kernel_rfl) (by simp) ?_
  refine AllReadyH.cons rfl (fun K hK => ?_) AllReadyH.nil
  go_simp
  refine (in_no _ _ _ hn _).mono ?_
  rintro e w' ⟨rfl, rfl⟩
  refine hK.out _ _ (hH10) (fun hH11 => ?_)
  clear hK K
  refine tk (i := 41) (v := ?_) rfl ?_ hH11 ?_
  rotate_left
  · intro W hSw; (try dsimp only at hSw); (try go_split_ands); go_simp; (try with_reducible rfl)
  simp only [List.getElem_toArray, List.getElem_cons_succ, List.getElem_cons_zero, Act.put, List.setIfInBounds_toArray, List.set_cons_zero, List.set_cons_succ]
  refine wpAnyH_ready (rs := [42]) (by kernel_rfl) (by simp) ?_
  refine AllReadyH.cons rfl (fun K hK => ?_) AllReadyH.nil
  go_simp
  refine hK.out _ _ (hH11) (fun hH12 => ?_)
  clear hK K
  refine wpAnyH_done (by kernel_rfl) ?_ _
  obtain ⟨g1, hb1⟩ := HG.out
  have hud := (Upd.refl (fun _ => False) w1).drew
  have g2 := hud.blockv g1
  have hb2 : Below w.heap.size w w1.drew := hb1.drew
  generalize w1.drew = w2 at *
  have hth : w2.there (w.heap.size + 1) 0 7 := fun j hj => by
    rw [cell_of_block g2, frozen_of_block g2, Nat.zero_add]
    exact ⟨by rw [Array.getElem?_eq_getElem (by simpa using hj)]; rfl, rfl⟩
  have HB := Lib.hid hb2
  clear g1 hb1 g2 hb2 hud hHeld hH1 hH2 hH3 hH4 hH5 hH6 hH7 hH8 hH9 hH10 hH11 hH12 k1 k2 k3 k4 k5 k6 HG HW
  obtain ⟨L, hL⟩ : ∃ L : List Value, L = [.int .i64 0, .int .i64 0, .int .i64 0, .int .i64 0, .int .i64 0, .int .i64 0, .int .i64 0] := ⟨_, rfl⟩
  have h7 : L.length = 7 := by rw [hL]; rfl
  have hsz : L.toArray.size = 7 := by rw [hL]; rfl
  have hi : (Tryz.prog.info? 82).map (·.size) = some L.length := by rw [h7]; exact infoLay
  have hi2 : (Tryz.prog.info? 82).map (·.size) = some L.toArray.size := by rw [hsz]; exact infoLay
  have ho1 : L.toArray.all (·.oneCell') = true := all_oneCell_toArray (by intro v hv; rw [hL] at hv; simp at hv; subst hv; rfl)
  have hth3 : w2.there (w.heap.size + 1) 0 L.toArray.size := by rw [hsz]; exact hth
  have hth4 : w2.there (w.heap.size + 1) 0 L.length := by rw [h7]; exact hth
  replace hL := Lib.hid hL
  have HF := Lib.hid (And.intro hi (And.intro hi2 (And.intro ho1 (And.intro hth3 hth4))))
  clear h7 hi hi2 ho1 hth3 hth4 hth hsz
  go_wp2_with (first
    | (refine wpList_store_mid rfl _ _ _ rfl (w.heap.size + 1) 0 L.toArray rfl (by rw [hL.out]; rfl) HF.out.2.2.2.1 HF.out.2.1 HF.out.2.2.1 ?_)
    | fail)
  refine bodyPost_ret (results_mid2 rfl _ _ (w.heap.size + 1) 0 L _ rfl (World.rangeAt_setCells_same _ _ _ _ HF.out.2.2.2.2) Tryz.underlying82 rfl HF.out.1) rfl ⟨by rw [hL.out]; rfl, below_upd HB.out (upd_row _ (w.heap.size + 1) 0 _) (Nat.le_refl _) (fun k h => by omega)⟩
set_option maxRecDepth 100000 in
set_option maxHeartbeats 4000000 in
theorem plan_no7 (id : Int) (bl sl jo pa lo ba : Nat) (b1 : 1 ≤ bl) (b2 : bl ≤ 4096) (s1 : 1 ≤ sl) (s2 : sl ≤ 1024) (j1 : 4 ≤ jo) (j2 : jo ≤ 1024) (l1 : 1 ≤ lo) (l2 : lo ≤ 1024) (a1 : 1 ≤ ba) (a2 : ba ≤ 64) (p1 : (sl - 1) / 4 + 1 ≤ pa) (p2 : pa ≤ 4096)
    (hz : 4096 < 1 + 2 * pa + jo + lo + lo + lo + sl) (w : World) :
    Calls Tryz.prog 34 #[.agg (superC id bl sl jo pa lo ba).toArray] w (PlanBad w) := by
  have hg := heap_alloc_last w (.cells (superC id bl sl jo pa lo ba).toArray 34) rfl
  have k1 : (w.alloc (.cells (superC id bl sl jo pa lo ba).toArray 34)).cell? ⟨w.heap.size, 1, none⟩ = some (.int .i64 (bl : Int)) := cell_of_block hg 1
  have k2 : (w.alloc (.cells (superC id bl sl jo pa lo ba).toArray 34)).cell? ⟨w.heap.size, 2, none⟩ = some (.int .i64 (sl : Int)) := cell_of_block hg 2
  have k3 : (w.alloc (.cells (superC id bl sl jo pa lo ba).toArray 34)).cell? ⟨w.heap.size, 3, none⟩ = some (.int .i64 (jo : Int)) := cell_of_block hg 3
  have k4 : (w.alloc (.cells (superC id bl sl jo pa lo ba).toArray 34)).cell? ⟨w.heap.size, 4, none⟩ = some (.int .i64 (pa : Int)) := cell_of_block hg 4
  have k5 : (w.alloc (.cells (superC id bl sl jo pa lo ba).toArray 34)).cell? ⟨w.heap.size, 5, none⟩ = some (.int .i64 (lo : Int)) := cell_of_block hg 5
  have k6 : (w.alloc (.cells (superC id bl sl jo pa lo ba).toArray 34)).cell? ⟨w.heap.size, 6, none⟩ = some (.int .i64 (ba : Int)) := cell_of_block hg 6
  go_enter Tryz.func34, Tryz.ntmps34
  go_wp2_with fail
  have hua : Upd (fun _ => False) (w.alloc (.cells (superC id bl sl jo pa lo ba).toArray 34)) ((w.alloc (.cells (superC id bl sl jo pa lo ba).toArray 34)).alloc (.cells #[.int .i64 0, .int .i64 0, .int .i64 0, .int .i64 0, .int .i64 0, .int .i64 0, .int .i64 0] 82)) := (Upd.refl _ _).alloc _
  have hgl : ((w.alloc (.cells (superC id bl sl jo pa lo ba).toArray 34)).alloc (.cells #[.int .i64 0, .int .i64 0, .int .i64 0, .int .i64 0, .int .i64 0, .int .i64 0, .int .i64 0] 82)).heap[w.heap.size + 1]? = _ := heap_alloc_last _ _ (by simp)
  have hul : Upd (fun _ => False) w ((w.alloc (.cells (superC id bl sl jo pa lo ba).toArray 34)).alloc (.cells #[.int .i64 0, .int .i64 0, .int .i64 0, .int .i64 0, .int .i64 0, .int .i64 0, .int .i64 0] 82)) := ((Upd.refl _ w).alloc _).alloc _
  have hs2 : ((w.alloc (.cells (superC id bl sl jo pa lo ba).toArray 34)).alloc (.cells #[.int .i64 0, .int .i64 0, .int .i64 0, .int .i64 0, .int .i64 0, .int .i64 0, .int .i64 0] 82)).heap.size = w.heap.size + 2 := by simp
  replace k1 := hua.cellv k1 (fun h => h)
  replace k2 := hua.cellv k2 (fun h => h)
  replace k3 := hua.cellv k3 (fun h => h)
  replace k4 := hua.cellv k4 (fun h => h)
  replace k5 := hua.cellv k5 (fun h => h)
  replace k6 := hua.cellv k6 (fun h => h)
  generalize (w.alloc (.cells (superC id bl sl jo pa lo ba).toArray 34)).alloc (.cells #[.int .i64 0, .int .i64 0, .int .i64 0, .int .i64 0, .int .i64 0, .int .i64 0, .int .i64 0] 82) = w2 at *
  generalize hm : w.heap.size = m at *
  have HM := Lib.hid (And.intro hgl (And.intro hul hs2))
  clear hg hua hgl hul hs2
  go_region_held3 (fun W => W.cell? ⟨m, 1, none⟩ = some (.int .i64 (bl : Int)) ∧ W.cell? ⟨m, 2, none⟩ = some (.int .i64 (sl : Int)) ∧ W.cell? ⟨m, 3, none⟩ = some (.int .i64 (jo : Int)) ∧ W.cell? ⟨m, 4, none⟩ = some (.int .i64 (pa : Int)) ∧ W.cell? ⟨m, 5, none⟩ = some (.int .i64 (lo : Int)) ∧ W.cell? ⟨m, 6, none⟩ = some (.int .i64 (ba : Int)))
    ((go_split_ands; (simp only [World.cell?_drew] at *); ((repeat' constructor) <;> assumption)))
    (first | (go_at_call 83; refine (in_yes _ _ _ (by omega) (by omega) _).mono ?_; rintro e w' ⟨rfl, rfl⟩) | (go_at_call 56; refine (need_any _ s1 (by omega) _).mono ?_; rintro e w' ⟨rfl, rfl⟩))
  obtain ⟨hgl, hul, hs2⟩ := HM.out
  clear HM k1 k2 k3 k4 k5 k6
  rename_i hHeld
  obtain ⟨k1, k2, k3, k4, k5, k6⟩ := hHeld
  have hm2 : m < w2.drew.heap.size := by show _ < w2.heap.size; omega
  have hm3 : m + 1 < w2.drew.heap.size := by show _ < w2.heap.size; omega
  have hu : Upd (fun _ => False) w w2.drew := hul.drew
  replace hgl : w2.drew.heap[m + 1]? = _ := hgl
  replace hs2 : w2.drew.heap.size = m + 2 := hs2
  have HM := Lib.hid (And.intro hgl (And.intro hu hs2))
  clear hgl hul hs2 hu
  generalize w2.drew = w3 at *
  have hth : Hid (∀ X, (w3.alloc X).there (m + 1) 0 7) := by
    intro X j hj
    have hb : (w3.alloc X).heap[m + 1]? = _ := ((Upd.refl (fun _ => False) w3).alloc X).blockv HM.out.1
    rw [cell_of_block hb, frozen_of_block hb, Nat.zero_add]
    refine ⟨?_, rfl⟩
    rw [Array.getElem?_eq_getElem (by simpa using hj)]
    rfl
  go_upto_region 13 with fail
  have hB : Below w.heap.size w (w3.alloc (.cells (layC sl jo pa lo).toArray 82)) := Upd.below ((HM.out.2.1).alloc _)
  have hth2 := hth.out (.cells (layC sl jo pa lo).toArray 82)
  clear k1 k2 k3 k4 k5 k6 HM hth
  generalize w3.alloc (.cells (layC sl jo pa lo).toArray 82) = w5 at *
  generalize w3.heap.size = m3 at *
  obtain ⟨L, hL⟩ : ∃ L : List Value, L = [.int .i64 0, .int .i64 0, .int .i64 0, .int .i64 0, .int .i64 0, .int .i64 0, .int .i64 0] := ⟨_, rfl⟩
  have h7 : L.length = 7 := by rw [hL]; rfl
  have hsz : L.toArray.size = 7 := by rw [hL]; rfl
  have ho1 : L.toArray.all (·.oneCell') = true := all_oneCell_toArray (by intro v hv; rw [hL] at hv; simp at hv; subst hv; rfl)
  have hi : (Tryz.prog.info? 82).map (·.size) = some L.length := by rw [h7]; exact infoLay
  have hi2 : (Tryz.prog.info? 82).map (·.size) = some L.toArray.size := by rw [hsz]; exact infoLay
  have hth3 : w5.there (m + 1) 0 L.toArray.size := by rw [hsz]; exact hth2
  have hth4 : w5.there (m + 1) 0 L.length := by rw [h7]; exact hth2
  replace hL := Lib.hid hL
  have HF := Lib.hid (And.intro hB (And.intro hth3 (And.intro hth4 (And.intro hi (And.intro hi2 ho1)))))
  clear hB hth2 hth3 hth4 hi hi2 ho1 h7 hsz
  go_wp2_with (first
    | (refine wpList_store_mid rfl _ _ _ rfl (m + 1) 0 L.toArray rfl (by rw [hL.out]; rfl) HF.out.2.1 HF.out.2.2.2.2.1 HF.out.2.2.2.2.2 ?_)
    | fail)
  refine bodyPost_ret (results_mid2 rfl _ _ (m + 1) 0 L _ rfl (World.rangeAt_setCells_same _ _ _ _ HF.out.2.2.1) Tryz.underlying82 rfl HF.out.2.2.2.1) rfl ⟨by rw [hL.out]; rfl, below_upd (hm ▸ HF.out.1) (upd_row _ (m + 1) 0 _) (by omega) (fun k e => by omega)⟩
end Go.Proofs.YtnadilfobmgebaaGreatDoor
