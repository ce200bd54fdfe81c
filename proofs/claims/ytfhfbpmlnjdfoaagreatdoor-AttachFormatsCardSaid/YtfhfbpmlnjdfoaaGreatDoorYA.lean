/- A superblock that may not be: Plan tells so. The document's answer of layer 14: where each part begins. Plan of any superblock, and what the document's answer says of it. -/
import Derived.Test.YtfhfbpmlnjdfoaaGreatDoorA09
import Derived.Deep.LoopGhost
import Derived.Deep.CutBlock
namespace Go.Proofs.YtfhfbpmlnjdfoaaGreatDoor
open Go Go.RowKit
theorem in_no (n f t : Int) (h : ¬ (f ≤ n ∧ n ≤ t)) (w : World) : Calls Tryz.prog 53 #[.int .i64 n, .int .i64 f, .int .i64 t] w fun e w' => e = .returned (.bool false) ∧ w = w' := by
  by_cases h1 : f ≤ n
  · have q1 : decide (f ≤ n) = true := by simpa using h1
    have q2 : decide (n ≤ t) = false := by simp; omega
    go_enter Tryz.func53, Tryz.ntmps53
    go_wp2
    go_ret
    exact ⟨by simp, rfl⟩
  · have q1 : decide (f ≤ n) = false := by simpa using h1
    go_enter Tryz.func53, Tryz.ntmps53
    go_wp2
    go_ret
    exact ⟨by simp, rfl⟩
abbrev zLay : Value := .agg #[.int .i64 0, .int .i64 0, .int .i64 0, .int .i64 0, .int .i64 0, .int .i64 0, .int .i64 0]
def PlanBad (w : World) (e : Ending) (w' : World) : Prop := e = .returned (.tuple #[zLay, .int .i64 24]) ∧ Below w.heap.size w w'
set_option maxRecDepth 100000 in
set_option maxHeartbeats 2000000 in
theorem plan_no1 (id bl sl jo pa lo ba : Int) (hn : ¬ (1 ≤ bl ∧ bl ≤ 4096)) (w : World) :
    Calls Tryz.prog 14 #[.agg (superC id bl sl jo pa lo ba).toArray] w (PlanBad w) := by
  obtain ⟨w1, hw1⟩ : ∃ w1, w1 = (w.alloc (.cells (superC id bl sl jo pa lo ba).toArray 40)).alloc (.cells #[.int .i64 0, .int .i64 0, .int .i64 0, .int .i64 0, .int .i64 0, .int .i64 0, .int .i64 0] 43) := ⟨_, rfl⟩
  have g0 : w1.heap[w.heap.size]? = some (.cells (superC id bl sl jo pa lo ba).toArray 40 (0, 0)) := by rw [hw1]; exact (Below.heap_alloc _ _ _ (by simp)).trans (heap_alloc_last w _ rfl)
  have g1 : w1.heap[w.heap.size + 1]? = some (.cells #[.int .i64 0, .int .i64 0, .int .i64 0, .int .i64 0, .int .i64 0, .int .i64 0, .int .i64 0] 43 (0, 0)) := by rw [hw1]; exact heap_alloc_last _ _ (by simp)
  have hb1 : Below w.heap.size w w1 := by rw [hw1]; exact ((Below.refl _ w).alloc (Nat.le_refl _) _).alloc (by simp) _
  have k1 : w1.cell? ⟨w.heap.size, 1, none⟩ = some (.int .i64 bl) := cell_of_block g0 1
  have k2 : w1.cell? ⟨w.heap.size, 2, none⟩ = some (.int .i64 sl) := cell_of_block g0 2
  have k3 : w1.cell? ⟨w.heap.size, 3, none⟩ = some (.int .i64 jo) := cell_of_block g0 3
  have k4 : w1.cell? ⟨w.heap.size, 4, none⟩ = some (.int .i64 pa) := cell_of_block g0 4
  have k5 : w1.cell? ⟨w.heap.size, 5, none⟩ = some (.int .i64 lo) := cell_of_block g0 5
  have k6 : w1.cell? ⟨w.heap.size, 6, none⟩ = some (.int .i64 ba) := cell_of_block g0 6
  have HG := Lib.hid (And.intro g1 hb1)
  have HW := Lib.hid hw1
  clear g0 g1 hb1 hw1
  go_enter Tryz.func14, Tryz.ntmps14
  go_upto_region 2 with fail
  rw [← HW.out]
  refine wp_region_held_drew (S := fun W => W.cell? ⟨w.heap.size, 1, none⟩ = some (.int .i64 bl) ∧ W.cell? ⟨w.heap.size, 2, none⟩ = some (.int .i64 sl) ∧ W.cell? ⟨w.heap.size, 3, none⟩ = some (.int .i64 jo) ∧ W.cell? ⟨w.heap.size, 4, none⟩ = some (.int .i64 pa) ∧ W.cell? ⟨w.heap.size, 5, none⟩ = some (.int .i64 lo) ∧ W.cell? ⟨w.heap.size, 6, none⟩ = some (.int .i64 ba)) (by kernel_rfl) (by (simp only [World.cell?_drew]); exact ⟨k1, k2, k3, k4, k5, k6⟩) (fun hHeld => ?_)
  refine Wl.i [0, 1, 2] ?_; iterate 3 refine Wl.t hHeld ?_
  refine Wl.o ?_
  refine Wl.r 3 (fun K hK => ?_)
  go_simp
  refine (in_no _ _ _ hn _).mono ?_
  rintro e w' ⟨rfl, rfl⟩
  refine hK.out _ _ (hHeld) (fun hH1 => ?_)
  clear hK K
  refine Wl.i [4, 5, 6, 7, 8, 9, 10] ?_; iterate 7 refine Wl.t hH1 ?_
  refine Wl.o ?_
  refine Wl.r 11 (fun K hK => ?_)
  go_simp
  refine hK.out _ _ (hH1) (fun hH2 => ?_)
  clear hK K
  refine Wl.i [12, 13, 14, 15, 16, 17] ?_; iterate 6 refine Wl.t hH2 ?_
  refine Wl.o ?_
  refine Wl.r 18 (fun K hK => ?_)
  go_simp
  refine hK.out _ _ (hH2) (fun hH3 => ?_)
  clear hK K
  refine Wl.i [19, 20, 21, 22, 23, 24] ?_; iterate 6 refine Wl.t hH3 ?_
  refine Wl.o ?_
  refine Wl.r 25 (fun K hK => ?_)
  go_simp
  refine hK.out _ _ (hH3) (fun hH4 => ?_)
  clear hK K
  refine Wl.i [26, 27, 28, 29, 30, 31] ?_; iterate 6 refine Wl.t hH4 ?_
  refine Wl.o ?_
  refine Wl.r 32 (fun K hK => ?_)
  go_simp
  refine hK.out _ _ (hH4) (fun hH5 => ?_)
  clear hK K
  refine Wl.i [33, 34, 35, 36, 37, 38, 39, 40, 41] ?_; iterate 9 refine Wl.t hH5 ?_
  refine Wl.o ?_
  refine Wl.r 42 (fun K hK => ?_)
  go_simp
  refine hK.out _ _ (hH5) (fun hH6 => ?_)
  clear hK K
  refine Wl.d ?_
  obtain ⟨g1, hb1⟩ := HG.out
  have hud := (Upd.refl (fun _ => False) w1).drew
  have g2 := hud.blockv g1
  have hb2 : Below w.heap.size w w1.drew := hb1.drew
  generalize w1.drew = w2 at *
  have hth : w2.there (w.heap.size + 1) 0 7 := fun j hj => by
    rw [cell_of_block g2, frozen_of_block g2, Nat.zero_add]
    exact ⟨by rw [Array.getElem?_eq_getElem (by simpa using hj)]; rfl, rfl⟩
  have HB := Lib.hid hb2
  clear g1 hb1 g2 hb2 hud hHeld hH1 hH2 hH3 hH4 hH5 hH6 k1 k2 k3 k4 k5 k6 HG HW
  obtain ⟨L, hL⟩ : ∃ L : List Value, L = [.int .i64 0, .int .i64 0, .int .i64 0, .int .i64 0, .int .i64 0, .int .i64 0, .int .i64 0] := ⟨_, rfl⟩
  have h7 : L.length = 7 := by rw [hL]; rfl
  have hsz : L.toArray.size = 7 := by rw [hL]; rfl
  have hi : (Tryz.prog.info? 43).map (·.size) = some L.length := by rw [h7]; exact infoLay
  have hi2 : (Tryz.prog.info? 43).map (·.size) = some L.toArray.size := by rw [hsz]; exact infoLay
  have ho1 : L.toArray.all (·.oneCell') = true := all_oneCell_toArray (by intro v hv; rw [hL] at hv; simp at hv; subst hv; rfl)
  have hth3 : w2.there (w.heap.size + 1) 0 L.toArray.size := by rw [hsz]; exact hth
  have hth4 : w2.there (w.heap.size + 1) 0 L.length := by rw [h7]; exact hth
  replace hL := Lib.hid hL
  have HF := Lib.hid (And.intro hi (And.intro hi2 (And.intro ho1 (And.intro hth3 hth4))))
  clear h7 hi hi2 ho1 hth3 hth4 hth hsz
  go_wp2_with (first
    | (refine wpList_store_mid rfl _ _ _ rfl (w.heap.size + 1) 0 L.toArray rfl (by rw [hL.out]; rfl) HF.out.2.2.2.1 HF.out.2.1 HF.out.2.2.1 ?_)
    | fail)
  refine bodyPost_ret (results_mid2 rfl _ _ (w.heap.size + 1) 0 L _ rfl (World.rangeAt_setCells_same _ _ _ _ HF.out.2.2.2.2) Tryz.underlying43 rfl HF.out.1) rfl ⟨by rw [hL.out]; rfl, below_upd HB.out (upd_row _ (w.heap.size + 1) 0 _) (Nat.le_refl _) (fun k h => by omega)⟩
set_option maxRecDepth 100000 in
set_option maxHeartbeats 2000000 in
theorem plan_no2 (id bl sl jo pa lo ba : Int) (h1 : 1 ≤ bl ∧ bl ≤ 4096) (hn : ¬ (1 ≤ sl ∧ sl ≤ 1024)) (w : World) :
    Calls Tryz.prog 14 #[.agg (superC id bl sl jo pa lo ba).toArray] w (PlanBad w) := by
  obtain ⟨w1, hw1⟩ : ∃ w1, w1 = (w.alloc (.cells (superC id bl sl jo pa lo ba).toArray 40)).alloc (.cells #[.int .i64 0, .int .i64 0, .int .i64 0, .int .i64 0, .int .i64 0, .int .i64 0, .int .i64 0] 43) := ⟨_, rfl⟩
  have g0 : w1.heap[w.heap.size]? = some (.cells (superC id bl sl jo pa lo ba).toArray 40 (0, 0)) := by rw [hw1]; exact (Below.heap_alloc _ _ _ (by simp)).trans (heap_alloc_last w _ rfl)
  have g1 : w1.heap[w.heap.size + 1]? = some (.cells #[.int .i64 0, .int .i64 0, .int .i64 0, .int .i64 0, .int .i64 0, .int .i64 0, .int .i64 0] 43 (0, 0)) := by rw [hw1]; exact heap_alloc_last _ _ (by simp)
  have hb1 : Below w.heap.size w w1 := by rw [hw1]; exact ((Below.refl _ w).alloc (Nat.le_refl _) _).alloc (by simp) _
  have k1 : w1.cell? ⟨w.heap.size, 1, none⟩ = some (.int .i64 bl) := cell_of_block g0 1
  have k2 : w1.cell? ⟨w.heap.size, 2, none⟩ = some (.int .i64 sl) := cell_of_block g0 2
  have k3 : w1.cell? ⟨w.heap.size, 3, none⟩ = some (.int .i64 jo) := cell_of_block g0 3
  have k4 : w1.cell? ⟨w.heap.size, 4, none⟩ = some (.int .i64 pa) := cell_of_block g0 4
  have k5 : w1.cell? ⟨w.heap.size, 5, none⟩ = some (.int .i64 lo) := cell_of_block g0 5
  have k6 : w1.cell? ⟨w.heap.size, 6, none⟩ = some (.int .i64 ba) := cell_of_block g0 6
  have HG := Lib.hid (And.intro g1 hb1)
  have HW := Lib.hid hw1
  clear g0 g1 hb1 hw1
  go_enter Tryz.func14, Tryz.ntmps14
  go_upto_region 2 with fail
  rw [← HW.out]
  refine wp_region_held_drew (S := fun W => W.cell? ⟨w.heap.size, 1, none⟩ = some (.int .i64 bl) ∧ W.cell? ⟨w.heap.size, 2, none⟩ = some (.int .i64 sl) ∧ W.cell? ⟨w.heap.size, 3, none⟩ = some (.int .i64 jo) ∧ W.cell? ⟨w.heap.size, 4, none⟩ = some (.int .i64 pa) ∧ W.cell? ⟨w.heap.size, 5, none⟩ = some (.int .i64 lo) ∧ W.cell? ⟨w.heap.size, 6, none⟩ = some (.int .i64 ba)) (by kernel_rfl) (by (simp only [World.cell?_drew]); exact ⟨k1, k2, k3, k4, k5, k6⟩) (fun hHeld => ?_)
  refine Wl.i [0, 1, 2] ?_; iterate 3 refine Wl.t hHeld ?_
  refine Wl.o ?_
  refine Wl.r 3 (fun K hK => ?_)
  go_simp
  refine (in_yes _ _ _ h1.1 h1.2 _).mono ?_
  rintro e w' ⟨rfl, rfl⟩
  refine hK.out _ _ (hHeld) (fun hH1 => ?_)
  clear hK K
  refine Wl.i [4, 5, 6, 7, 8] ?_; iterate 5 refine Wl.t hH1 ?_
  refine Wl.o ?_
  refine Wl.r 9 (fun K hK => ?_)
  go_simp
  refine (in_no _ _ _ hn _).mono ?_
  rintro e w' ⟨rfl, rfl⟩
  refine hK.out _ _ (hH1) (fun hH2 => ?_)
  clear hK K
  refine Wl.i [10] (Wl.t hH2 (Wl.o ?_))
  refine Wl.r 11 (fun K hK => ?_)
  go_simp
  refine hK.out _ _ (hH2) (fun hH3 => ?_)
  clear hK K
  refine Wl.i [12, 13, 14, 15, 16, 17] ?_; iterate 6 refine Wl.t hH3 ?_
  refine Wl.o ?_
  refine Wl.r 18 (fun K hK => ?_)
  go_simp
  refine hK.out _ _ (hH3) (fun hH4 => ?_)
  clear hK K
  refine Wl.i [19, 20, 21, 22, 23, 24] ?_; iterate 6 refine Wl.t hH4 ?_
  refine Wl.o ?_
  refine Wl.r 25 (fun K hK => ?_)
  go_simp
  refine hK.out _ _ (hH4) (fun hH5 => ?_)
  clear hK K
  refine Wl.i [26, 27, 28, 29, 30, 31] ?_; iterate 6 refine Wl.t hH5 ?_
  refine Wl.o ?_
  refine Wl.r 32 (fun K hK => ?_)
  go_simp
  refine hK.out _ _ (hH5) (fun hH6 => ?_)
  clear hK K
  refine Wl.i [33, 34, 35, 36, 37, 38, 39, 40, 41] ?_; iterate 9 refine Wl.t hH6 ?_
  refine Wl.o ?_
  refine Wl.r 42 (fun K hK => ?_)
  go_simp
  refine hK.out _ _ (hH6) (fun hH7 => ?_)
  clear hK K
  refine Wl.d ?_
  obtain ⟨g1, hb1⟩ := HG.out
  have hud := (Upd.refl (fun _ => False) w1).drew
  have g2 := hud.blockv g1
  have hb2 : Below w.heap.size w w1.drew := hb1.drew
  generalize w1.drew = w2 at *
  have hth : w2.there (w.heap.size + 1) 0 7 := fun j hj => by
    rw [cell_of_block g2, frozen_of_block g2, Nat.zero_add]
    exact ⟨by rw [Array.getElem?_eq_getElem (by simpa using hj)]; rfl, rfl⟩
  have HB := Lib.hid hb2
  clear g1 hb1 g2 hb2 hud hHeld hH1 hH2 hH3 hH4 hH5 hH6 hH7 k1 k2 k3 k4 k5 k6 HG HW
  obtain ⟨L, hL⟩ : ∃ L : List Value, L = [.int .i64 0, .int .i64 0, .int .i64 0, .int .i64 0, .int .i64 0, .int .i64 0, .int .i64 0] := ⟨_, rfl⟩
  have h7 : L.length = 7 := by rw [hL]; rfl
  have hsz : L.toArray.size = 7 := by rw [hL]; rfl
  have hi : (Tryz.prog.info? 43).map (·.size) = some L.length := by rw [h7]; exact infoLay
  have hi2 : (Tryz.prog.info? 43).map (·.size) = some L.toArray.size := by rw [hsz]; exact infoLay
  have ho1 : L.toArray.all (·.oneCell') = true := all_oneCell_toArray (by intro v hv; rw [hL] at hv; simp at hv; subst hv; rfl)
  have hth3 : w2.there (w.heap.size + 1) 0 L.toArray.size := by rw [hsz]; exact hth
  have hth4 : w2.there (w.heap.size + 1) 0 L.length := by rw [h7]; exact hth
  replace hL := Lib.hid hL
  have HF := Lib.hid (And.intro hi (And.intro hi2 (And.intro ho1 (And.intro hth3 hth4))))
  clear h7 hi hi2 ho1 hth3 hth4 hth hsz
  go_wp2_with (first
    | (refine wpList_store_mid rfl _ _ _ rfl (w.heap.size + 1) 0 L.toArray rfl (by rw [hL.out]; rfl) HF.out.2.2.2.1 HF.out.2.1 HF.out.2.2.1 ?_)
    | fail)
  refine bodyPost_ret (results_mid2 rfl _ _ (w.heap.size + 1) 0 L _ rfl (World.rangeAt_setCells_same _ _ _ _ HF.out.2.2.2.2) Tryz.underlying43 rfl HF.out.1) rfl ⟨by rw [hL.out]; rfl, below_upd HB.out (upd_row _ (w.heap.size + 1) 0 _) (Nat.le_refl _) (fun k h => by omega)⟩
set_option maxRecDepth 100000 in
set_option maxHeartbeats 2000000 in
theorem plan_no3 (id bl sl jo pa lo ba : Int) (h1 : 1 ≤ bl ∧ bl ≤ 4096) (h2 : 1 ≤ sl ∧ sl ≤ 1024) (hn : ¬ (4 ≤ jo ∧ jo ≤ 1024)) (w : World) :
    Calls Tryz.prog 14 #[.agg (superC id bl sl jo pa lo ba).toArray] w (PlanBad w) := by
  obtain ⟨w1, hw1⟩ : ∃ w1, w1 = (w.alloc (.cells (superC id bl sl jo pa lo ba).toArray 40)).alloc (.cells #[.int .i64 0, .int .i64 0, .int .i64 0, .int .i64 0, .int .i64 0, .int .i64 0, .int .i64 0] 43) := ⟨_, rfl⟩
  have g0 : w1.heap[w.heap.size]? = some (.cells (superC id bl sl jo pa lo ba).toArray 40 (0, 0)) := by rw [hw1]; exact (Below.heap_alloc _ _ _ (by simp)).trans (heap_alloc_last w _ rfl)
  have g1 : w1.heap[w.heap.size + 1]? = some (.cells #[.int .i64 0, .int .i64 0, .int .i64 0, .int .i64 0, .int .i64 0, .int .i64 0, .int .i64 0] 43 (0, 0)) := by rw [hw1]; exact heap_alloc_last _ _ (by simp)
  have hb1 : Below w.heap.size w w1 := by rw [hw1]; exact ((Below.refl _ w).alloc (Nat.le_refl _) _).alloc (by simp) _
  have k1 : w1.cell? ⟨w.heap.size, 1, none⟩ = some (.int .i64 bl) := cell_of_block g0 1
  have k2 : w1.cell? ⟨w.heap.size, 2, none⟩ = some (.int .i64 sl) := cell_of_block g0 2
  have k3 : w1.cell? ⟨w.heap.size, 3, none⟩ = some (.int .i64 jo) := cell_of_block g0 3
  have k4 : w1.cell? ⟨w.heap.size, 4, none⟩ = some (.int .i64 pa) := cell_of_block g0 4
  have k5 : w1.cell? ⟨w.heap.size, 5, none⟩ = some (.int .i64 lo) := cell_of_block g0 5
  have k6 : w1.cell? ⟨w.heap.size, 6, none⟩ = some (.int .i64 ba) := cell_of_block g0 6
  have HG := Lib.hid (And.intro g1 hb1)
  have HW := Lib.hid hw1
  clear g0 g1 hb1 hw1
  go_enter Tryz.func14, Tryz.ntmps14
  go_upto_region 2 with fail
  rw [← HW.out]
  refine wp_region_held_drew (S := fun W => W.cell? ⟨w.heap.size, 1, none⟩ = some (.int .i64 bl) ∧ W.cell? ⟨w.heap.size, 2, none⟩ = some (.int .i64 sl) ∧ W.cell? ⟨w.heap.size, 3, none⟩ = some (.int .i64 jo) ∧ W.cell? ⟨w.heap.size, 4, none⟩ = some (.int .i64 pa) ∧ W.cell? ⟨w.heap.size, 5, none⟩ = some (.int .i64 lo) ∧ W.cell? ⟨w.heap.size, 6, none⟩ = some (.int .i64 ba)) (by kernel_rfl) (by (simp only [World.cell?_drew]); exact ⟨k1, k2, k3, k4, k5, k6⟩) (fun hHeld => ?_)
  refine Wl.i [0, 1, 2] ?_; iterate 3 refine Wl.t hHeld ?_
  refine Wl.o ?_
  refine Wl.r 3 (fun K hK => ?_)
  go_simp
  refine (in_yes _ _ _ h1.1 h1.2 _).mono ?_
  rintro e w' ⟨rfl, rfl⟩
  refine hK.out _ _ (hHeld) (fun hH1 => ?_)
  clear hK K
  refine Wl.i [4, 5, 6, 7, 8] ?_; iterate 5 refine Wl.t hH1 ?_
  refine Wl.o ?_
  refine Wl.r 9 (fun K hK => ?_)
  go_simp
  refine (in_yes _ _ _ h2.1 h2.2 _).mono ?_
  rintro e w' ⟨rfl, rfl⟩
  refine hK.out _ _ (hH1) (fun hH2 => ?_)
  clear hK K
  refine Wl.i [10] (Wl.t hH2 (Wl.o ?_))
  refine Wl.r 11 (fun K hK => ?_)
  go_simp
  refine hK.out _ _ (hH2) (fun hH3 => ?_)
  clear hK K
  refine Wl.i [12, 13, 14, 15] ?_; iterate 4 refine Wl.t hH3 ?_
  refine Wl.o ?_
  refine Wl.r 16 (fun K hK => ?_)
  go_simp
  refine (in_no _ _ _ hn _).mono ?_
  rintro e w' ⟨rfl, rfl⟩
  refine hK.out _ _ (hH3) (fun hH4 => ?_)
  clear hK K
  refine Wl.i [17] (Wl.t hH4 (Wl.o ?_))
  refine Wl.r 18 (fun K hK => ?_)
  go_simp
  refine hK.out _ _ (hH4) (fun hH5 => ?_)
  clear hK K
  refine Wl.i [19, 20, 21, 22, 23, 24] ?_; iterate 6 refine Wl.t hH5 ?_
  refine Wl.o ?_
  refine Wl.r 25 (fun K hK => ?_)
  go_simp
  refine hK.out _ _ (hH5) (fun hH6 => ?_)
  clear hK K
  refine Wl.i [26, 27, 28, 29, 30, 31] ?_; iterate 6 refine Wl.t hH6 ?_
  refine Wl.o ?_
  refine Wl.r 32 (fun K hK => ?_)
  go_simp
  refine hK.out _ _ (hH6) (fun hH7 => ?_)
  clear hK K
  refine Wl.i [33, 34, 35, 36, 37, 38, 39, 40, 41] ?_; iterate 9 refine Wl.t hH7 ?_
  refine Wl.o ?_
  refine Wl.r 42 (fun K hK => ?_)
  go_simp
  refine hK.out _ _ (hH7) (fun hH8 => ?_)
  clear hK K
  refine Wl.d ?_
  obtain ⟨g1, hb1⟩ := HG.out
  have hud := (Upd.refl (fun _ => False) w1).drew
  have g2 := hud.blockv g1
  have hb2 : Below w.heap.size w w1.drew := hb1.drew
  generalize w1.drew = w2 at *
  have hth : w2.there (w.heap.size + 1) 0 7 := fun j hj => by
    rw [cell_of_block g2, frozen_of_block g2, Nat.zero_add]
    exact ⟨by rw [Array.getElem?_eq_getElem (by simpa using hj)]; rfl, rfl⟩
  have HB := Lib.hid hb2
  clear g1 hb1 g2 hb2 hud hHeld hH1 hH2 hH3 hH4 hH5 hH6 hH7 hH8 k1 k2 k3 k4 k5 k6 HG HW
  obtain ⟨L, hL⟩ : ∃ L : List Value, L = [.int .i64 0, .int .i64 0, .int .i64 0, .int .i64 0, .int .i64 0, .int .i64 0, .int .i64 0] := ⟨_, rfl⟩
  have h7 : L.length = 7 := by rw [hL]; rfl
  have hsz : L.toArray.size = 7 := by rw [hL]; rfl
  have hi : (Tryz.prog.info? 43).map (·.size) = some L.length := by rw [h7]; exact infoLay
  have hi2 : (Tryz.prog.info? 43).map (·.size) = some L.toArray.size := by rw [hsz]; exact infoLay
  have ho1 : L.toArray.all (·.oneCell') = true := all_oneCell_toArray (by intro v hv; rw [hL] at hv; simp at hv; subst hv; rfl)
  have hth3 : w2.there (w.heap.size + 1) 0 L.toArray.size := by rw [hsz]; exact hth
  have hth4 : w2.there (w.heap.size + 1) 0 L.length := by rw [h7]; exact hth
  replace hL := Lib.hid hL
  have HF := Lib.hid (And.intro hi (And.intro hi2 (And.intro ho1 (And.intro hth3 hth4))))
  clear h7 hi hi2 ho1 hth3 hth4 hth hsz
  go_wp2_with (first
    | (refine wpList_store_mid rfl _ _ _ rfl (w.heap.size + 1) 0 L.toArray rfl (by rw [hL.out]; rfl) HF.out.2.2.2.1 HF.out.2.1 HF.out.2.2.1 ?_)
    | fail)
  refine bodyPost_ret (results_mid2 rfl _ _ (w.heap.size + 1) 0 L _ rfl (World.rangeAt_setCells_same _ _ _ _ HF.out.2.2.2.2) Tryz.underlying43 rfl HF.out.1) rfl ⟨by rw [hL.out]; rfl, below_upd HB.out (upd_row _ (w.heap.size + 1) 0 _) (Nat.le_refl _) (fun k h => by omega)⟩
set_option maxRecDepth 100000 in
set_option maxHeartbeats 2000000 in
theorem plan_no4 (id bl sl jo pa lo ba : Int) (h1 : 1 ≤ bl ∧ bl ≤ 4096) (h2 : 1 ≤ sl ∧ sl ≤ 1024) (h3 : 4 ≤ jo ∧ jo ≤ 1024) (hn : ¬ (1 ≤ lo ∧ lo ≤ 1024)) (w : World) :
    Calls Tryz.prog 14 #[.agg (superC id bl sl jo pa lo ba).toArray] w (PlanBad w) := by
  obtain ⟨w1, hw1⟩ : ∃ w1, w1 = (w.alloc (.cells (superC id bl sl jo pa lo ba).toArray 40)).alloc (.cells #[.int .i64 0, .int .i64 0, .int .i64 0, .int .i64 0, .int .i64 0, .int .i64 0, .int .i64 0] 43) := ⟨_, rfl⟩
  have g0 : w1.heap[w.heap.size]? = some (.cells (superC id bl sl jo pa lo ba).toArray 40 (0, 0)) := by rw [hw1]; exact (Below.heap_alloc _ _ _ (by simp)).trans (heap_alloc_last w _ rfl)
  have g1 : w1.heap[w.heap.size + 1]? = some (.cells #[.int .i64 0, .int .i64 0, .int .i64 0, .int .i64 0, .int .i64 0, .int .i64 0, .int .i64 0] 43 (0, 0)) := by rw [hw1]; exact heap_alloc_last _ _ (by simp)
  have hb1 : Below w.heap.size w w1 := by rw [hw1]; exact ((Below.refl _ w).alloc (Nat.le_refl _) _).alloc (by simp) _
  have k1 : w1.cell? ⟨w.heap.size, 1, none⟩ = some (.int .i64 bl) := cell_of_block g0 1
  have k2 : w1.cell? ⟨w.heap.size, 2, none⟩ = some (.int .i64 sl) := cell_of_block g0 2
  have k3 : w1.cell? ⟨w.heap.size, 3, none⟩ = some (.int .i64 jo) := cell_of_block g0 3
  have k4 : w1.cell? ⟨w.heap.size, 4, none⟩ = some (.int .i64 pa) := cell_of_block g0 4
  have k5 : w1.cell? ⟨w.heap.size, 5, none⟩ = some (.int .i64 lo) := cell_of_block g0 5
  have k6 : w1.cell? ⟨w.heap.size, 6, none⟩ = some (.int .i64 ba) := cell_of_block g0 6
  have HG := Lib.hid (And.intro g1 hb1)
  have HW := Lib.hid hw1
  clear g0 g1 hb1 hw1
  go_enter Tryz.func14, Tryz.ntmps14
  go_upto_region 2 with fail
  rw [← HW.out]
  refine wp_region_held_drew (S := fun W => W.cell? ⟨w.heap.size, 1, none⟩ = some (.int .i64 bl) ∧ W.cell? ⟨w.heap.size, 2, none⟩ = some (.int .i64 sl) ∧ W.cell? ⟨w.heap.size, 3, none⟩ = some (.int .i64 jo) ∧ W.cell? ⟨w.heap.size, 4, none⟩ = some (.int .i64 pa) ∧ W.cell? ⟨w.heap.size, 5, none⟩ = some (.int .i64 lo) ∧ W.cell? ⟨w.heap.size, 6, none⟩ = some (.int .i64 ba)) (by kernel_rfl) (by (simp only [World.cell?_drew]); exact ⟨k1, k2, k3, k4, k5, k6⟩) (fun hHeld => ?_)
  refine Wl.i [0, 1, 2] ?_; iterate 3 refine Wl.t hHeld ?_
  refine Wl.o ?_
  refine Wl.r 3 (fun K hK => ?_)
  go_simp
  refine (in_yes _ _ _ h1.1 h1.2 _).mono ?_
  rintro e w' ⟨rfl, rfl⟩
  refine hK.out _ _ (hHeld) (fun hH1 => ?_)
  clear hK K
  refine Wl.i [4, 5, 6, 7, 8] ?_; iterate 5 refine Wl.t hH1 ?_
  refine Wl.o ?_
  refine Wl.r 9 (fun K hK => ?_)
  go_simp
  refine (in_yes _ _ _ h2.1 h2.2 _).mono ?_
  rintro e w' ⟨rfl, rfl⟩
  refine hK.out _ _ (hH1) (fun hH2 => ?_)
  clear hK K
  refine Wl.i [10] (Wl.t hH2 (Wl.o ?_))
  refine Wl.r 11 (fun K hK => ?_)
  go_simp
  refine hK.out _ _ (hH2) (fun hH3 => ?_)
  clear hK K
  refine Wl.i [12, 13, 14, 15] ?_; iterate 4 refine Wl.t hH3 ?_
  refine Wl.o ?_
  refine Wl.r 16 (fun K hK => ?_)
  go_simp
  refine (in_yes _ _ _ h3.1 h3.2 _).mono ?_
  rintro e w' ⟨rfl, rfl⟩
  refine hK.out _ _ (hH3) (fun hH4 => ?_)
  clear hK K
  refine Wl.i [17] (Wl.t hH4 (Wl.o ?_))
  refine Wl.r 18 (fun K hK => ?_)
  go_simp
  refine hK.out _ _ (hH4) (fun hH5 => ?_)
  clear hK K
  refine Wl.i [19, 20, 21, 22] ?_; iterate 4 refine Wl.t hH5 ?_
  refine Wl.o ?_
  refine Wl.r 23 (fun K hK => ?_)
  go_simp
  refine (in_no _ _ _ hn _).mono ?_
  rintro e w' ⟨rfl, rfl⟩
  refine hK.out _ _ (hH5) (fun hH6 => ?_)
  clear hK K
  refine Wl.i [24] (Wl.t hH6 (Wl.o ?_))
  refine Wl.r 25 (fun K hK => ?_)
  go_simp
  refine hK.out _ _ (hH6) (fun hH7 => ?_)
  clear hK K
  refine Wl.i [26, 27, 28, 29, 30, 31] ?_; iterate 6 refine Wl.t hH7 ?_
  refine Wl.o ?_
  refine Wl.r 32 (fun K hK => ?_)
  go_simp
  refine hK.out _ _ (hH7) (fun hH8 => ?_)
  clear hK K
  refine Wl.i [33, 34, 35, 36, 37, 38, 39, 40, 41] ?_; iterate 9 refine Wl.t hH8 ?_
  refine Wl.o ?_
  refine Wl.r 42 (fun K hK => ?_)
  go_simp
  refine hK.out _ _ (hH8) (fun hH9 => ?_)
  clear hK K
  refine Wl.d ?_
  obtain ⟨g1, hb1⟩ := HG.out
  have hud := (Upd.refl (fun _ => False) w1).drew
  have g2 := hud.blockv g1
  have hb2 : Below w.heap.size w w1.drew := hb1.drew
  generalize w1.drew = w2 at *
  have hth : w2.there (w.heap.size + 1) 0 7 := fun j hj => by
    rw [cell_of_block g2, frozen_of_block g2, Nat.zero_add]
    exact ⟨by rw [Array.getElem?_eq_getElem (by simpa using hj)]; rfl, rfl⟩
  have HB := Lib.hid hb2
  clear g1 hb1 g2 hb2 hud hHeld hH1 hH2 hH3 hH4 hH5 hH6 hH7 hH8 hH9 k1 k2 k3 k4 k5 k6 HG HW
  obtain ⟨L, hL⟩ : ∃ L : List Value, L = [.int .i64 0, .int .i64 0, .int .i64 0, .int .i64 0, .int .i64 0, .int .i64 0, .int .i64 0] := ⟨_, rfl⟩
  have h7 : L.length = 7 := by rw [hL]; rfl
  have hsz : L.toArray.size = 7 := by rw [hL]; rfl
  have hi : (Tryz.prog.info? 43).map (·.size) = some L.length := by rw [h7]; exact infoLay
  have hi2 : (Tryz.prog.info? 43).map (·.size) = some L.toArray.size := by rw [hsz]; exact infoLay
  have ho1 : L.toArray.all (·.oneCell') = true := all_oneCell_toArray (by intro v hv; rw [hL] at hv; simp at hv; subst hv; rfl)
  have hth3 : w2.there (w.heap.size + 1) 0 L.toArray.size := by rw [hsz]; exact hth
  have hth4 : w2.there (w.heap.size + 1) 0 L.length := by rw [h7]; exact hth
  replace hL := Lib.hid hL
  have HF := Lib.hid (And.intro hi (And.intro hi2 (And.intro ho1 (And.intro hth3 hth4))))
  clear h7 hi hi2 ho1 hth3 hth4 hth hsz
  go_wp2_with (first
    | (refine wpList_store_mid rfl _ _ _ rfl (w.heap.size + 1) 0 L.toArray rfl (by rw [hL.out]; rfl) HF.out.2.2.2.1 HF.out.2.1 HF.out.2.2.1 ?_)
    | fail)
  refine bodyPost_ret (results_mid2 rfl _ _ (w.heap.size + 1) 0 L _ rfl (World.rangeAt_setCells_same _ _ _ _ HF.out.2.2.2.2) Tryz.underlying43 rfl HF.out.1) rfl ⟨by rw [hL.out]; rfl, below_upd HB.out (upd_row _ (w.heap.size + 1) 0 _) (Nat.le_refl _) (fun k h => by omega)⟩
set_option maxRecDepth 100000 in
set_option maxHeartbeats 2000000 in
theorem plan_no5 (id bl sl jo pa lo ba : Int) (h1 : 1 ≤ bl ∧ bl ≤ 4096) (h2 : 1 ≤ sl ∧ sl ≤ 1024) (h3 : 4 ≤ jo ∧ jo ≤ 1024) (h4 : 1 ≤ lo ∧ lo ≤ 1024) (hn : ¬ (1 ≤ ba ∧ ba ≤ 64)) (w : World) :
    Calls Tryz.prog 14 #[.agg (superC id bl sl jo pa lo ba).toArray] w (PlanBad w) := by
  obtain ⟨w1, hw1⟩ : ∃ w1, w1 = (w.alloc (.cells (superC id bl sl jo pa lo ba).toArray 40)).alloc (.cells #[.int .i64 0, .int .i64 0, .int .i64 0, .int .i64 0, .int .i64 0, .int .i64 0, .int .i64 0] 43) := ⟨_, rfl⟩
  have g0 : w1.heap[w.heap.size]? = some (.cells (superC id bl sl jo pa lo ba).toArray 40 (0, 0)) := by rw [hw1]; exact (Below.heap_alloc _ _ _ (by simp)).trans (heap_alloc_last w _ rfl)
  have g1 : w1.heap[w.heap.size + 1]? = some (.cells #[.int .i64 0, .int .i64 0, .int .i64 0, .int .i64 0, .int .i64 0, .int .i64 0, .int .i64 0] 43 (0, 0)) := by rw [hw1]; exact heap_alloc_last _ _ (by simp)
  have hb1 : Below w.heap.size w w1 := by rw [hw1]; exact ((Below.refl _ w).alloc (Nat.le_refl _) _).alloc (by simp) _
  have k1 : w1.cell? ⟨w.heap.size, 1, none⟩ = some (.int .i64 bl) := cell_of_block g0 1
  have k2 : w1.cell? ⟨w.heap.size, 2, none⟩ = some (.int .i64 sl) := cell_of_block g0 2
  have k3 : w1.cell? ⟨w.heap.size, 3, none⟩ = some (.int .i64 jo) := cell_of_block g0 3
  have k4 : w1.cell? ⟨w.heap.size, 4, none⟩ = some (.int .i64 pa) := cell_of_block g0 4
  have k5 : w1.cell? ⟨w.heap.size, 5, none⟩ = some (.int .i64 lo) := cell_of_block g0 5
  have k6 : w1.cell? ⟨w.heap.size, 6, none⟩ = some (.int .i64 ba) := cell_of_block g0 6
  have HG := Lib.hid (And.intro g1 hb1)
  have HW := Lib.hid hw1
  clear g0 g1 hb1 hw1
  go_enter Tryz.func14, Tryz.ntmps14
  go_upto_region 2 with fail
  rw [← HW.out]
  refine wp_region_held_drew (S := fun W => W.cell? ⟨w.heap.size, 1, none⟩ = some (.int .i64 bl) ∧ W.cell? ⟨w.heap.size, 2, none⟩ = some (.int .i64 sl) ∧ W.cell? ⟨w.heap.size, 3, none⟩ = some (.int .i64 jo) ∧ W.cell? ⟨w.heap.size, 4, none⟩ = some (.int .i64 pa) ∧ W.cell? ⟨w.heap.size, 5, none⟩ = some (.int .i64 lo) ∧ W.cell? ⟨w.heap.size, 6, none⟩ = some (.int .i64 ba)) (by kernel_rfl) (by (simp only [World.cell?_drew]); exact ⟨k1, k2, k3, k4, k5, k6⟩) (fun hHeld => ?_)
  refine Wl.i [0, 1, 2] ?_; iterate 3 refine Wl.t hHeld ?_
  refine Wl.o ?_
  refine Wl.r 3 (fun K hK => ?_)
  go_simp
  refine (in_yes _ _ _ h1.1 h1.2 _).mono ?_
  rintro e w' ⟨rfl, rfl⟩
  refine hK.out _ _ (hHeld) (fun hH1 => ?_)
  clear hK K
  refine Wl.i [4, 5, 6, 7, 8] ?_; iterate 5 refine Wl.t hH1 ?_
  refine Wl.o ?_
  refine Wl.r 9 (fun K hK => ?_)
  go_simp
  refine (in_yes _ _ _ h2.1 h2.2 _).mono ?_
  rintro e w' ⟨rfl, rfl⟩
  refine hK.out _ _ (hH1) (fun hH2 => ?_)
  clear hK K
  refine Wl.i [10] (Wl.t hH2 (Wl.o ?_))
  refine Wl.r 11 (fun K hK => ?_)
  go_simp
  refine hK.out _ _ (hH2) (fun hH3 => ?_)
  clear hK K
  refine Wl.i [12, 13, 14, 15] ?_; iterate 4 refine Wl.t hH3 ?_
  refine Wl.o ?_
  refine Wl.r 16 (fun K hK => ?_)
  go_simp
  refine (in_yes _ _ _ h3.1 h3.2 _).mono ?_
  rintro e w' ⟨rfl, rfl⟩
  refine hK.out _ _ (hH3) (fun hH4 => ?_)
  clear hK K
  refine Wl.i [17] (Wl.t hH4 (Wl.o ?_))
  refine Wl.r 18 (fun K hK => ?_)
  go_simp
  refine hK.out _ _ (hH4) (fun hH5 => ?_)
  clear hK K
  refine Wl.i [19, 20, 21, 22] ?_; iterate 4 refine Wl.t hH5 ?_
  refine Wl.o ?_
  refine Wl.r 23 (fun K hK => ?_)
  go_simp
  refine (in_yes _ _ _ h4.1 h4.2 _).mono ?_
  rintro e w' ⟨rfl, rfl⟩
  refine hK.out _ _ (hH5) (fun hH6 => ?_)
  clear hK K
  refine Wl.i [24] (Wl.t hH6 (Wl.o ?_))
  refine Wl.r 25 (fun K hK => ?_)
  go_simp
  refine hK.out _ _ (hH6) (fun hH7 => ?_)
  clear hK K
  refine Wl.i [26, 27, 28, 29] ?_; iterate 4 refine Wl.t hH7 ?_
  refine Wl.o ?_
  refine Wl.r 30 (fun K hK => ?_)
  go_simp
  refine (in_no _ _ _ hn _).mono ?_
  rintro e w' ⟨rfl, rfl⟩
  refine hK.out _ _ (hH7) (fun hH8 => ?_)
  clear hK K
  refine Wl.i [31] (Wl.t hH8 (Wl.o ?_))
  refine Wl.r 32 (fun K hK => ?_)
  go_simp
  refine hK.out _ _ (hH8) (fun hH9 => ?_)
  clear hK K
  refine Wl.i [33, 34, 35, 36, 37, 38, 39, 40, 41] ?_; iterate 9 refine Wl.t hH9 ?_
  refine Wl.o ?_
  refine Wl.r 42 (fun K hK => ?_)
  go_simp
  refine hK.out _ _ (hH9) (fun hH10 => ?_)
  clear hK K
  refine Wl.d ?_
  obtain ⟨g1, hb1⟩ := HG.out
  have hud := (Upd.refl (fun _ => False) w1).drew
  have g2 := hud.blockv g1
  have hb2 : Below w.heap.size w w1.drew := hb1.drew
  generalize w1.drew = w2 at *
  have hth : w2.there (w.heap.size + 1) 0 7 := fun j hj => by
    rw [cell_of_block g2, frozen_of_block g2, Nat.zero_add]
    exact ⟨by rw [Array.getElem?_eq_getElem (by simpa using hj)]; rfl, rfl⟩
  have HB := Lib.hid hb2
  clear g1 hb1 g2 hb2 hud hHeld hH1 hH2 hH3 hH4 hH5 hH6 hH7 hH8 hH9 hH10 k1 k2 k3 k4 k5 k6 HG HW
  obtain ⟨L, hL⟩ : ∃ L : List Value, L = [.int .i64 0, .int .i64 0, .int .i64 0, .int .i64 0, .int .i64 0, .int .i64 0, .int .i64 0] := ⟨_, rfl⟩
  have h7 : L.length = 7 := by rw [hL]; rfl
  have hsz : L.toArray.size = 7 := by rw [hL]; rfl
  have hi : (Tryz.prog.info? 43).map (·.size) = some L.length := by rw [h7]; exact infoLay
  have hi2 : (Tryz.prog.info? 43).map (·.size) = some L.toArray.size := by rw [hsz]; exact infoLay
  have ho1 : L.toArray.all (·.oneCell') = true := all_oneCell_toArray (by intro v hv; rw [hL] at hv; simp at hv; subst hv; rfl)
  have hth3 : w2.there (w.heap.size + 1) 0 L.toArray.size := by rw [hsz]; exact hth
  have hth4 : w2.there (w.heap.size + 1) 0 L.length := by rw [h7]; exact hth
  replace hL := Lib.hid hL
  have HF := Lib.hid (And.intro hi (And.intro hi2 (And.intro ho1 (And.intro hth3 hth4))))
  clear h7 hi hi2 ho1 hth3 hth4 hth hsz
  go_wp2_with (first
    | (refine wpList_store_mid rfl _ _ _ rfl (w.heap.size + 1) 0 L.toArray rfl (by rw [hL.out]; rfl) HF.out.2.2.2.1 HF.out.2.1 HF.out.2.2.1 ?_)
    | fail)
  refine bodyPost_ret (results_mid2 rfl _ _ (w.heap.size + 1) 0 L _ rfl (World.rangeAt_setCells_same _ _ _ _ HF.out.2.2.2.2) Tryz.underlying43 rfl HF.out.1) rfl ⟨by rw [hL.out]; rfl, below_upd HB.out (upd_row _ (w.heap.size + 1) 0 _) (Nat.le_refl _) (fun k h => by omega)⟩
set_option maxRecDepth 100000 in
set_option maxHeartbeats 2000000 in
theorem plan_no6 (id bl sl jo pa lo ba : Int) (h1 : 1 ≤ bl ∧ bl ≤ 4096) (h2 : 1 ≤ sl ∧ sl ≤ 1024) (h3 : 4 ≤ jo ∧ jo ≤ 1024) (h4 : 1 ≤ lo ∧ lo ≤ 1024) (h5 : 1 ≤ ba ∧ ba ≤ 64) (hn : ¬ ((((sl.toNat - 1) / 4 + 1 : Nat) : Int) ≤ pa ∧ pa ≤ 4096)) (w : World) :
    Calls Tryz.prog 14 #[.agg (superC id bl sl jo pa lo ba).toArray] w (PlanBad w) := by
  obtain ⟨w1, hw1⟩ : ∃ w1, w1 = (w.alloc (.cells (superC id bl sl jo pa lo ba).toArray 40)).alloc (.cells #[.int .i64 0, .int .i64 0, .int .i64 0, .int .i64 0, .int .i64 0, .int .i64 0, .int .i64 0] 43) := ⟨_, rfl⟩
  have g0 : w1.heap[w.heap.size]? = some (.cells (superC id bl sl jo pa lo ba).toArray 40 (0, 0)) := by rw [hw1]; exact (Below.heap_alloc _ _ _ (by simp)).trans (heap_alloc_last w _ rfl)
  have g1 : w1.heap[w.heap.size + 1]? = some (.cells #[.int .i64 0, .int .i64 0, .int .i64 0, .int .i64 0, .int .i64 0, .int .i64 0, .int .i64 0] 43 (0, 0)) := by rw [hw1]; exact heap_alloc_last _ _ (by simp)
  have hb1 : Below w.heap.size w w1 := by rw [hw1]; exact ((Below.refl _ w).alloc (Nat.le_refl _) _).alloc (by simp) _
  have k1 : w1.cell? ⟨w.heap.size, 1, none⟩ = some (.int .i64 bl) := cell_of_block g0 1
  have k2 : w1.cell? ⟨w.heap.size, 2, none⟩ = some (.int .i64 sl) := cell_of_block g0 2
  have k3 : w1.cell? ⟨w.heap.size, 3, none⟩ = some (.int .i64 jo) := cell_of_block g0 3
  have k4 : w1.cell? ⟨w.heap.size, 4, none⟩ = some (.int .i64 pa) := cell_of_block g0 4
  have k5 : w1.cell? ⟨w.heap.size, 5, none⟩ = some (.int .i64 lo) := cell_of_block g0 5
  have k6 : w1.cell? ⟨w.heap.size, 6, none⟩ = some (.int .i64 ba) := cell_of_block g0 6
  have HG := Lib.hid (And.intro g1 hb1)
  have HW := Lib.hid hw1
  clear g0 g1 hb1 hw1
  go_enter Tryz.func14, Tryz.ntmps14
  go_upto_region 2 with fail
  rw [← HW.out]
  have HND : Hid (∀ W, Calls Tryz.prog 54 #[.int .i64 sl] W fun e w' => e = .returned (.int .i64 (((sl.toNat - 1) / 4 + 1 : Nat) : Int)) ∧ W = w') := by
    intro W
    have := need_any sl.toNat (by omega) (by omega) W
    rwa [Int.toNat_of_nonneg (by omega)] at this
  generalize (sl.toNat - 1) / 4 + 1 = nd at *
  refine wp_region_held_drew (S := fun W => W.cell? ⟨w.heap.size, 1, none⟩ = some (.int .i64 bl) ∧ W.cell? ⟨w.heap.size, 2, none⟩ = some (.int .i64 sl) ∧ W.cell? ⟨w.heap.size, 3, none⟩ = some (.int .i64 jo) ∧ W.cell? ⟨w.heap.size, 4, none⟩ = some (.int .i64 pa) ∧ W.cell? ⟨w.heap.size, 5, none⟩ = some (.int .i64 lo) ∧ W.cell? ⟨w.heap.size, 6, none⟩ = some (.int .i64 ba)) (by kernel_rfl) (by (simp only [World.cell?_drew]); exact ⟨k1, k2, k3, k4, k5, k6⟩) (fun hHeld => ?_)
  refine Wl.i [0, 1, 2] ?_; iterate 3 refine Wl.t hHeld ?_
  refine Wl.o ?_
  refine Wl.r 3 (fun K hK => ?_)
  go_simp
  refine (in_yes _ _ _ h1.1 h1.2 _).mono ?_
  rintro e w' ⟨rfl, rfl⟩
  refine hK.out _ _ (hHeld) (fun hH1 => ?_)
  clear hK K
  refine Wl.i [4, 5, 6, 7, 8] ?_; iterate 5 refine Wl.t hH1 ?_
  refine Wl.o ?_
  refine Wl.r 9 (fun K hK => ?_)
  go_simp
  refine (in_yes _ _ _ h2.1 h2.2 _).mono ?_
  rintro e w' ⟨rfl, rfl⟩
  refine hK.out _ _ (hH1) (fun hH2 => ?_)
  clear hK K
  refine Wl.i [10] (Wl.t hH2 (Wl.o ?_))
  refine Wl.r 11 (fun K hK => ?_)
  go_simp
  refine hK.out _ _ (hH2) (fun hH3 => ?_)
  clear hK K
  refine Wl.i [12, 13, 14, 15] ?_; iterate 4 refine Wl.t hH3 ?_
  refine Wl.o ?_
  refine Wl.r 16 (fun K hK => ?_)
  go_simp
  refine (in_yes _ _ _ h3.1 h3.2 _).mono ?_
  rintro e w' ⟨rfl, rfl⟩
  refine hK.out _ _ (hH3) (fun hH4 => ?_)
  clear hK K
  refine Wl.i [17] (Wl.t hH4 (Wl.o ?_))
  refine Wl.r 18 (fun K hK => ?_)
  go_simp
  refine hK.out _ _ (hH4) (fun hH5 => ?_)
  clear hK K
  refine Wl.i [19, 20, 21, 22] ?_; iterate 4 refine Wl.t hH5 ?_
  refine Wl.o ?_
  refine Wl.r 23 (fun K hK => ?_)
  go_simp
  refine (in_yes _ _ _ h4.1 h4.2 _).mono ?_
  rintro e w' ⟨rfl, rfl⟩
  refine hK.out _ _ (hH5) (fun hH6 => ?_)
  clear hK K
  refine Wl.i [24] (Wl.t hH6 (Wl.o ?_))
  refine Wl.r 25 (fun K hK => ?_)
  go_simp
  refine hK.out _ _ (hH6) (fun hH7 => ?_)
  clear hK K
  refine Wl.i [26, 27, 28, 29] ?_; iterate 4 refine Wl.t hH7 ?_
  refine Wl.o ?_
  refine Wl.r 30 (fun K hK => ?_)
  go_simp
  refine (in_yes _ _ _ h5.1 h5.2 _).mono ?_
  rintro e w' ⟨rfl, rfl⟩
  refine hK.out _ _ (hH7) (fun hH8 => ?_)
  clear hK K
  refine Wl.i [31] (Wl.t hH8 (Wl.o ?_))
  refine Wl.r 32 (fun K hK => ?_)
  go_simp
  refine hK.out _ _ (hH8) (fun hH9 => ?_)
  clear hK K
  refine Wl.i [33, 34, 35, 36, 37, 38] ?_; iterate 6 refine Wl.t hH9 ?_
  refine Wl.o ?_
  refine Wl.r 39 (fun K hK => ?_)
  go_simp
  refine (HND.out _).mono ?_
  rintro e w' ⟨rfl, rfl⟩
  refine hK.out _ _ (hH9) (fun hH10 => ?_)
  clear hK K
  refine Wl.r 40 (fun K hK => ?_)
  go_simp
  refine (in_no _ _ _ hn _).mono ?_
  rintro e w' ⟨rfl, rfl⟩
  refine hK.out _ _ (hH10) (fun hH11 => ?_)
  clear hK K
  refine Wl.i [41] (Wl.t hH11 (Wl.o ?_))
  refine Wl.r 42 (fun K hK => ?_)
  go_simp
  refine hK.out _ _ (hH11) (fun hH12 => ?_)
  clear hK K
  refine Wl.d ?_
  obtain ⟨g1, hb1⟩ := HG.out
  have hud := (Upd.refl (fun _ => False) w1).drew
  have g2 := hud.blockv g1
  have hb2 : Below w.heap.size w w1.drew := hb1.drew
  generalize w1.drew = w2 at *
  have hth : w2.there (w.heap.size + 1) 0 7 := fun j hj => by
    rw [cell_of_block g2, frozen_of_block g2, Nat.zero_add]
    exact ⟨by rw [Array.getElem?_eq_getElem (by simpa using hj)]; rfl, rfl⟩
  have HB := Lib.hid hb2
  clear g1 hb1 g2 hb2 hud hHeld hH1 hH2 hH3 hH4 hH5 hH6 hH7 hH8 hH9 hH10 hH11 hH12 k1 k2 k3 k4 k5 k6 HG HW
  obtain ⟨L, hL⟩ : ∃ L : List Value, L = [.int .i64 0, .int .i64 0, .int .i64 0, .int .i64 0, .int .i64 0, .int .i64 0, .int .i64 0] := ⟨_, rfl⟩
  have h7 : L.length = 7 := by rw [hL]; rfl
  have hsz : L.toArray.size = 7 := by rw [hL]; rfl
  have hi : (Tryz.prog.info? 43).map (·.size) = some L.length := by rw [h7]; exact infoLay
  have hi2 : (Tryz.prog.info? 43).map (·.size) = some L.toArray.size := by rw [hsz]; exact infoLay
  have ho1 : L.toArray.all (·.oneCell') = true := all_oneCell_toArray (by intro v hv; rw [hL] at hv; simp at hv; subst hv; rfl)
  have hth3 : w2.there (w.heap.size + 1) 0 L.toArray.size := by rw [hsz]; exact hth
  have hth4 : w2.there (w.heap.size + 1) 0 L.length := by rw [h7]; exact hth
  replace hL := Lib.hid hL
  have HF := Lib.hid (And.intro hi (And.intro hi2 (And.intro ho1 (And.intro hth3 hth4))))
  clear h7 hi hi2 ho1 hth3 hth4 hth hsz
  go_wp2_with (first
    | (refine wpList_store_mid rfl _ _ _ rfl (w.heap.size + 1) 0 L.toArray rfl (by rw [hL.out]; rfl) HF.out.2.2.2.1 HF.out.2.1 HF.out.2.2.1 ?_)
    | fail)
  refine bodyPost_ret (results_mid2 rfl _ _ (w.heap.size + 1) 0 L _ rfl (World.rangeAt_setCells_same _ _ _ _ HF.out.2.2.2.2) Tryz.underlying43 rfl HF.out.1) rfl ⟨by rw [hL.out]; rfl, below_upd HB.out (upd_row _ (w.heap.size + 1) 0 _) (Nat.le_refl _) (fun k h => by omega)⟩
set_option maxRecDepth 100000 in
set_option maxHeartbeats 4000000 in
theorem plan_no7 (id : Int) (bl sl jo pa lo ba : Nat) (b1 : 1 ≤ bl) (b2 : bl ≤ 4096) (s1 : 1 ≤ sl) (s2 : sl ≤ 1024) (j1 : 4 ≤ jo) (j2 : jo ≤ 1024) (l1 : 1 ≤ lo) (l2 : lo ≤ 1024) (a1 : 1 ≤ ba) (a2 : ba ≤ 64) (p1 : (sl - 1) / 4 + 1 ≤ pa) (p2 : pa ≤ 4096)
    (hz : 4096 < 1 + 2 * pa + jo + lo + lo + lo + sl) (w : World) :
    Calls Tryz.prog 14 #[.agg (superC id bl sl jo pa lo ba).toArray] w (PlanBad w) := by
  have hg := heap_alloc_last w (.cells (superC id bl sl jo pa lo ba).toArray 40) rfl
  have k1 : (w.alloc (.cells (superC id bl sl jo pa lo ba).toArray 40)).cell? ⟨w.heap.size, 1, none⟩ = some (.int .i64 (bl : Int)) := cell_of_block hg 1
  have k2 : (w.alloc (.cells (superC id bl sl jo pa lo ba).toArray 40)).cell? ⟨w.heap.size, 2, none⟩ = some (.int .i64 (sl : Int)) := cell_of_block hg 2
  have k3 : (w.alloc (.cells (superC id bl sl jo pa lo ba).toArray 40)).cell? ⟨w.heap.size, 3, none⟩ = some (.int .i64 (jo : Int)) := cell_of_block hg 3
  have k4 : (w.alloc (.cells (superC id bl sl jo pa lo ba).toArray 40)).cell? ⟨w.heap.size, 4, none⟩ = some (.int .i64 (pa : Int)) := cell_of_block hg 4
  have k5 : (w.alloc (.cells (superC id bl sl jo pa lo ba).toArray 40)).cell? ⟨w.heap.size, 5, none⟩ = some (.int .i64 (lo : Int)) := cell_of_block hg 5
  have k6 : (w.alloc (.cells (superC id bl sl jo pa lo ba).toArray 40)).cell? ⟨w.heap.size, 6, none⟩ = some (.int .i64 (ba : Int)) := cell_of_block hg 6
  go_enter Tryz.func14, Tryz.ntmps14
  go_wp2_with fail
  have hua : Upd (fun _ => False) (w.alloc (.cells (superC id bl sl jo pa lo ba).toArray 40)) ((w.alloc (.cells (superC id bl sl jo pa lo ba).toArray 40)).alloc (.cells #[.int .i64 0, .int .i64 0, .int .i64 0, .int .i64 0, .int .i64 0, .int .i64 0, .int .i64 0] 43)) := (Upd.refl _ _).alloc _
  have hgl : ((w.alloc (.cells (superC id bl sl jo pa lo ba).toArray 40)).alloc (.cells #[.int .i64 0, .int .i64 0, .int .i64 0, .int .i64 0, .int .i64 0, .int .i64 0, .int .i64 0] 43)).heap[w.heap.size + 1]? = _ := heap_alloc_last _ _ (by simp)
  have hul : Upd (fun _ => False) w ((w.alloc (.cells (superC id bl sl jo pa lo ba).toArray 40)).alloc (.cells #[.int .i64 0, .int .i64 0, .int .i64 0, .int .i64 0, .int .i64 0, .int .i64 0, .int .i64 0] 43)) := ((Upd.refl _ w).alloc _).alloc _
  have hs2 : ((w.alloc (.cells (superC id bl sl jo pa lo ba).toArray 40)).alloc (.cells #[.int .i64 0, .int .i64 0, .int .i64 0, .int .i64 0, .int .i64 0, .int .i64 0, .int .i64 0] 43)).heap.size = w.heap.size + 2 := by simp
  replace k1 := hua.cellv k1 (fun h => h)
  replace k2 := hua.cellv k2 (fun h => h)
  replace k3 := hua.cellv k3 (fun h => h)
  replace k4 := hua.cellv k4 (fun h => h)
  replace k5 := hua.cellv k5 (fun h => h)
  replace k6 := hua.cellv k6 (fun h => h)
  generalize (w.alloc (.cells (superC id bl sl jo pa lo ba).toArray 40)).alloc (.cells #[.int .i64 0, .int .i64 0, .int .i64 0, .int .i64 0, .int .i64 0, .int .i64 0, .int .i64 0] 43) = w2 at *
  generalize hm : w.heap.size = m at *
  have HM := Lib.hid (And.intro hgl (And.intro hul hs2))
  clear hg hua hgl hul hs2
  go_region_held3 (fun W => W.cell? ⟨m, 1, none⟩ = some (.int .i64 (bl : Int)) ∧ W.cell? ⟨m, 2, none⟩ = some (.int .i64 (sl : Int)) ∧ W.cell? ⟨m, 3, none⟩ = some (.int .i64 (jo : Int)) ∧ W.cell? ⟨m, 4, none⟩ = some (.int .i64 (pa : Int)) ∧ W.cell? ⟨m, 5, none⟩ = some (.int .i64 (lo : Int)) ∧ W.cell? ⟨m, 6, none⟩ = some (.int .i64 (ba : Int)))
    ((go_split_ands; (simp only [World.cell?_drew] at *); ((repeat' constructor) <;> assumption)))
    (first | (go_at_call 53; refine (in_yes _ _ _ (by omega) (by omega) _).mono ?_; rintro e w' ⟨rfl, rfl⟩) | (go_at_call 54; refine (need_any _ s1 (by omega) _).mono ?_; rintro e w' ⟨rfl, rfl⟩))
  obtain ⟨hgl, hul, hs2⟩ := HM.out
  clear HM k1 k2 k3 k4 k5 k6
  rename_i hHeld
  obtain ⟨k1, k2, k3, k4, k5, k6⟩ := hHeld
  have hm2 : m < w2.drew.heap.size := by show _ < w2.heap.size; omega
  have hm3 : m + 1 < w2.drew.heap.size := by show _ < w2.heap.size; omega
  have hu : Upd (fun _ => False) w w2.drew := hul.drew
  replace hgl : w2.drew.heap[m + 1]? = _ := hgl
  replace hs2 : w2.drew.heap.size = m + 2 := hs2
  have HM := Lib.hid (And.intro hgl (And.intro hu hs2))
  clear hgl hul hs2 hu
  generalize w2.drew = w3 at *
  have hth : Hid (∀ X, (w3.alloc X).there (m + 1) 0 7) := by
    intro X j hj
    have hb : (w3.alloc X).heap[m + 1]? = _ := ((Upd.refl (fun _ => False) w3).alloc X).blockv HM.out.1
    rw [cell_of_block hb, frozen_of_block hb, Nat.zero_add]
    refine ⟨?_, rfl⟩
    rw [Array.getElem?_eq_getElem (by simpa using hj)]
    rfl
  go_upto_region 13 with fail
  have hB : Below w.heap.size w (w3.alloc (.cells (layC sl jo pa lo).toArray 43)) := Upd.below ((HM.out.2.1).alloc _)
  have hth2 := hth.out (.cells (layC sl jo pa lo).toArray 43)
  clear k1 k2 k3 k4 k5 k6 HM hth
  generalize w3.alloc (.cells (layC sl jo pa lo).toArray 43) = w5 at *
  generalize w3.heap.size = m3 at *
  obtain ⟨L, hL⟩ : ∃ L : List Value, L = [.int .i64 0, .int .i64 0, .int .i64 0, .int .i64 0, .int .i64 0, .int .i64 0, .int .i64 0] := ⟨_, rfl⟩
  have h7 : L.length = 7 := by rw [hL]; rfl
  have hsz : L.toArray.size = 7 := by rw [hL]; rfl
  have ho1 : L.toArray.all (·.oneCell') = true := all_oneCell_toArray (by intro v hv; rw [hL] at hv; simp at hv; subst hv; rfl)
  have hi : (Tryz.prog.info? 43).map (·.size) = some L.length := by rw [h7]; exact infoLay
  have hi2 : (Tryz.prog.info? 43).map (·.size) = some L.toArray.size := by rw [hsz]; exact infoLay
  have hth3 : w5.there (m + 1) 0 L.toArray.size := by rw [hsz]; exact hth2
  have hth4 : w5.there (m + 1) 0 L.length := by rw [h7]; exact hth2
  replace hL := Lib.hid hL
  have HF := Lib.hid (And.intro hB (And.intro hth3 (And.intro hth4 (And.intro hi (And.intro hi2 ho1)))))
  clear hB hth2 hth3 hth4 hi hi2 ho1 h7 hsz
  go_wp2_with (first
    | (refine wpList_store_mid rfl _ _ _ rfl (m + 1) 0 L.toArray rfl (by rw [hL.out]; rfl) HF.out.2.1 HF.out.2.2.2.2.1 HF.out.2.2.2.2.2 ?_)
    | fail)
  refine bodyPost_ret (results_mid2 rfl _ _ (m + 1) 0 L _ rfl (World.rangeAt_setCells_same _ _ _ _ HF.out.2.2.1) Tryz.underlying43 rfl HF.out.2.2.2.1) rfl ⟨by rw [hL.out]; rfl, below_upd (hm ▸ HF.out.1) (upd_row _ (m + 1) 0 _) (by omega) (fun k e => by omega)⟩
abbrev TestsAt (bl sl jo pa lo ba : Int) (nd : Nat) : Prop := (1 ≤ bl ∧ bl ≤ 4096) ∧ (1 ≤ sl ∧ sl ≤ 1024) ∧ (4 ≤ jo ∧ jo ≤ 1024) ∧ ((nd : Int) ≤ pa ∧ pa ≤ 4096) ∧ (1 ≤ lo ∧ lo ≤ 1024) ∧ (1 ≤ ba ∧ ba ≤ 64)
def AdmP (bl sl jo pa lo ba : Int) : Prop := TestsAt bl sl jo pa lo ba ((sl.toNat - 1) / 4 + 1) ∧ 1 + 2 * pa + jo + lo + lo + lo + sl ≤ 4096
theorem plan_bad {bl sl jo pa lo ba : Int} (h : ¬ AdmP bl sl jo pa lo ba) (id : Int) (w : World) :
    Calls Tryz.prog 14 #[.agg (superC id bl sl jo pa lo ba).toArray] w (PlanBad w) := by
  by_cases h1 : 1 ≤ bl ∧ bl ≤ 4096
  rotate_left
  · exact plan_no1 id bl sl jo pa lo ba h1 w
  by_cases h2 : 1 ≤ sl ∧ sl ≤ 1024
  rotate_left
  · exact plan_no2 id bl sl jo pa lo ba h1 h2 w
  by_cases h3 : 4 ≤ jo ∧ jo ≤ 1024
  rotate_left
  · exact plan_no3 id bl sl jo pa lo ba h1 h2 h3 w
  by_cases h4 : 1 ≤ lo ∧ lo ≤ 1024
  rotate_left
  · exact plan_no4 id bl sl jo pa lo ba h1 h2 h3 h4 w
  by_cases h5 : 1 ≤ ba ∧ ba ≤ 64
  rotate_left
  · exact plan_no5 id bl sl jo pa lo ba h1 h2 h3 h4 h5 w
  by_cases h6 : (((sl.toNat - 1) / 4 + 1 : Nat) : Int) ≤ pa ∧ pa ≤ 4096
  rotate_left
  · exact plan_no6 id bl sl jo pa lo ba h1 h2 h3 h4 h5 h6 w
  have hz : 4096 < 1 + 2 * pa + jo + lo + lo + lo + sl := by
    refine Int.lt_of_not_ge fun hz => h ⟨⟨h1, h2, h3, h6, h4, h5⟩, hz⟩
  obtain ⟨bl, rfl⟩ := Int.eq_ofNat_of_zero_le (show 0 ≤ bl by omega)
  obtain ⟨sl, rfl⟩ := Int.eq_ofNat_of_zero_le (show 0 ≤ sl by omega)
  obtain ⟨jo, rfl⟩ := Int.eq_ofNat_of_zero_le (show 0 ≤ jo by omega)
  obtain ⟨pa, rfl⟩ := Int.eq_ofNat_of_zero_le (show 0 ≤ pa by omega)
  obtain ⟨lo, rfl⟩ := Int.eq_ofNat_of_zero_le (show 0 ≤ lo by omega)
  obtain ⟨ba, rfl⟩ := Int.eq_ofNat_of_zero_le (show 0 ≤ ba by omega)
  exact plan_no7 id bl sl jo pa lo ba (by omega) (by omega) (by omega) (by omega) (by omega) (by omega) (by omega) (by omega) (by omega) (by omega) (by omega) (by omega) (by omega) w
end Go.Proofs.YtfhfbpmlnjdfoaaGreatDoor
