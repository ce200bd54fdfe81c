/- The logs of a small cache (lavabolaw17.opened). -/
import Derived.Test.YtnadilfobmgebaaGreatDoorG16
import Derived.Test.YtnadilfobmgebaaGreatDoorG25
namespace Go.Proofs.YtnadilfobmgebaaGreatDoor
open Go Go.RowKit
def nL (k : Nat) : CaN := ⟨7, 9, 2, 8, 1, k, 3⟩
theorem nL_ok {k : Nat} (h1 : 1 ≤ k) (h2 : k ≤ 1024) : (nL k).Ok := ⟨by show 1 ≤ 9; decide, by show 9 ≤ 4096; decide, by show 1 ≤ 2; decide, by show 2 ≤ 1024; decide, by show 4 ≤ 8; decide, by show 8 ≤ 1024; decide, h1, h2, by show 1 ≤ 3; decide, by show 3 ≤ 64; decide, by show (2 - 1) / 4 + 1 ≤ 1; decide, by show 1 ≤ 4096; decide, by unfold CaN.size nL; simp; omega⟩
def pb0 : Bk := (pagesB 0 []).getD 0 zB
def devL (k : Nat) : List Bk := (List.replicate (13 + 3 * k) zB).set 1 pb0
theorem nL_size (k : Nat) : (nL k).size = 13 + 3 * k := by unfold CaN.size nL; simp; omega
theorem made_dF (k : Nat) : (madeS (nL k)).dF = devL k := by
  show flushF (flushF (List.replicate (nL k).size zB) []) (ckO (1 + (1 - 1) * 1) 1 (pagesB (0 + 1 - 1) [])) = _
  rw [nL_size]
  rfl
theorem devL_len (k : Nat) : (devL k).length = 13 + 3 * k := by simp [devL]
theorem devL_zero (k s : Nat) (h1 : s ≠ 1) (h2 : s < 13 + 3 * k) : (devL k)[s]? = some zB := by
  unfold devL
  rw [List.getElem?_set_ne (by omega), List.getElem?_replicate, if_pos h2]
structure L17 (S : Nat → Prop) (w : World) (li lc lf d k : Nat) (F : List Bk) (O : List (Nat × Bk)) (P : List Int) : Prop where
  i : LogI w li d 11 k 101
  c : LogC w lc d (11 + k) k 105
  f : LogF w lf d (11 + k + k) k 109
  dv : Dv S w d F O P
  fl : F.length = 13 + 3 * k
  nS : ∀ j, w.heap.size ≤ j → S j
  iS : ¬ S li
  cS : ¬ S lc
  fS : ¬ S lf
  nib : Nib w
  nibS : ¬ S 0
def OpenedOut (w : World) (k : Nat) (e : Ending) (w' : World) : Prop :=
  ∃ li lc lf d S, e = .returned (.tuple #[.agg #[ptr li, ptr lc, ptr lf], ptr d]) ∧ L17 S w' li lc lf d k (devL k) [] [] ∧ (∀ j, S j → w.heap.size ≤ j) ∧ Below w.heap.size w w'
set_option maxRecDepth 100000 in
set_option maxHeartbeats 1000000 in
theorem opened_ok (k : Nat) (hk1 : 1 ≤ k) (hk2 : k ≤ 12) (w : World) (nib : Nib w) (tur : Tur w) : Calls Tryz.prog 13 #[.int .i64 (k : Int)] w (OpenedOut w k) := by
  obtain ⟨w1, hw1⟩ : ∃ w1, w1 = w.alloc (.cells #[.pointer none, .pointer none, .pointer none] 28) := ⟨_, rfl⟩
  have hu1 : Upd (fun _ => False) w w1 := by rw [hw1]; exact (Upd.refl _ w).alloc _
  have hg1 : w1.heap[w.heap.size]? = some (.cells #[.pointer none, .pointer none, .pointer none] 28 (0, 0)) := by rw [hw1]; exact heap_alloc_last w _ rfl
  have H := Lib.hid (And.intro nib (And.intro tur (And.intro hu1 hg1)))
  have HW1 := Lib.hid hw1
  clear nib tur hu1 hg1 hw1
  go_enter Tryz.func13, Tryz.ntmps13
  go_wp2_with fail
  rw [← HW1.out]
  refine (small_ok w1).mono ?_
  rintro e w2 ⟨rfl, hb2⟩
  have hu2 : Upd (fun _ => False) w1 w2 := Upd.of_below hb2
  have HB := Lib.hid hu2
  clear hb2 hu2
  go_wp2_with fail
  obtain ⟨nib, tur, hu1, hg1⟩ := H.out
  obtain ⟨w3, hw3⟩ : ∃ w3, w3 = w2.alloc (.cells #[.int .i64 7, .int .i64 9, .int .i64 2, .int .i64 8, .int .i64 1, .int .i64 (k : Int), .int .i64 3] 34) := ⟨_, rfl⟩
  have hu3 : Upd (fun _ => False) w2 w3 := by rw [hw3]; exact (Upd.refl _ w2).alloc _
  have U3 := (hu1.trans HB.out).trans hu3
  have g3 := (HB.out.trans hu3).blockv hg1
  have hM := made_ok (nL k) (nL_ok hk1 (by omega)) w3 (nib.keep U3 (fun h => h)) (tur.keep U3 (fun h => h))
  rw [← hw3]
  have HM := Lib.hid hM
  have H3 := Lib.hid (And.intro U3 g3)
  clear nib tur hu1 hg1 hu3 U3 g3 hM hw3
  refine HM.out.mono ?_
  rintro e w4 ⟨c, p, own, rfl, hca, hb4, hold⟩
  have hu4 : Upd (fun _ => False) w3 w4 := Upd.of_below hb4
  have H4 := Lib.hid (And.intro hca (And.intro hu4 hold))
  have HL := Lib.hid (lopen hca)
  clear hca hb4 hu4 hold
  go_wp2_with fail
  refine HL.out.mono ?_
  rintro e w5 ⟨li, lc, lf, rfl, hi, hc, hf, ⟨hz1, hz2, hz3⟩, hb5⟩
  have hu5 : Upd (fun _ => False) w4 w5 := Upd.of_below hb5
  have g5 := (H4.out.2.1.trans hu5).blockv H3.out.2
  have c0 := cell_of_block g5 0
  have c1 := cell_of_block g5 1
  have c2 := cell_of_block g5 2
  have f0 := frozen_of_block g5 0
  have f1 := frozen_of_block g5 1
  have f2 := frozen_of_block g5 2
  have hlt := lt_of_block g5
  have H5 := Lib.hid (And.intro hi (And.intro hc (And.intro hf (And.intro hu5 g5))))
  clear hi hc hf hb5 hu5 g5
  go_wp2
  obtain ⟨hi, hc, hf, hu5, g5⟩ := H5.out
  obtain ⟨hca, hu4, hold⟩ := H4.out
  have s0 := heap_setCell_same g5 0 (ptr li)
  have s1 := heap_setCell_same s0 1 (ptr lc)
  have s2 := heap_setCell_same s1 2 (ptr lf)
  have t1 := (((upd_setCell w5 w.heap.size 0 (ptr li)).trans (upd_setCell _ w.heap.size 1 (ptr lc))).trans (upd_setCell _ w.heap.size 2 (ptr lf)))
  have t2 := t1.alloc (.cells #[ptr li, ptr lc, ptr lf] 28)
  have r2 := World.rangeAt_alloc (range_of_block (cs := [ptr li, ptr lc, ptr lf]) s2) (.cells #[ptr li, ptr lc, ptr lf] 28)
  refine bodyPost_ret (results_mid2 rfl _ _ w.heap.size 0 [ptr li, ptr lc, ptr lf] _ rfl r2 Tryz.underlying28 rfl (by kernel_rfl)) rfl ?_
  have z3 := H3.out.1.size
  have z4 := hu4.size
  have z5 := hu5.size
  have hb3 := lt_of_block H3.out.2
  have hli := hi.lt
  have hlc := hc.lt
  have hlf := hf.lt
  have zf := t2.size
  have hU5 := (H3.out.1.trans hu4).trans hu5
  have hn : ∀ j, w4.heap.size ≤ j → own j = 0 := hca.far
  have hown : ∀ j, own j = 2 → w3.heap.size ≤ j := fun j hj => by
    by_cases hl : j < w3.heap.size
    · rw [hold j hl] at hj; exact absurd hj (by decide)
    · omega
  have hdv : Dv (fun j => own j = 2) w4 p.ssd (devL k) [] [] := by
    have := hca.ssd
    rw [made_dF] at this
    exact this
  refine ⟨li, lc, lf, p.ssd, fun j => own j = 2 ∨ ((((w5.setCell ⟨w.heap.size, 0, none⟩ (ptr li)).setCell ⟨w.heap.size, 1, none⟩ (ptr lc)).setCell ⟨w.heap.size, 2, none⟩ (ptr lf)).alloc (.cells #[ptr li, ptr lc, ptr lf] 28)).heap.size ≤ j, rfl, ?_, ?_, ?_⟩
  · exact {
      i := hi.keep t2 (by omega)
      c := hc.keep t2 (by omega)
      f := hf.keep t2 (by omega)
      dv := ((hdv.new hu5).keep t2 (fun j hj e => by have := hown j hj; omega)).wide (fun _ h => .inl h)
      fl := devL_len k
      nS := fun j hj => .inr hj
      iS := fun h => h.elim (fun h => by rw [hn li hz1] at h; exact absurd h (by decide)) (fun h => by omega)
      cS := fun h => h.elim (fun h => by rw [hn lc hz2] at h; exact absurd h (by decide)) (fun h => by omega)
      fS := fun h => h.elim (fun h => by rw [hn lf hz3] at h; exact absurd h (by decide)) (fun h => by omega)
      nib := (hca.nib.keep hu5 (fun h => h)).keep t2 (fun e => by have := H.out.1.lt; omega)
      nibS := fun h => h.elim (fun h => by rw [hca.on] at h; exact absurd h (by decide)) (fun h => by have := H.out.1.lt; omega) }
  · rintro j (hj | hj)
    · have := hown j hj; omega
    · omega
  · exact Upd.below (hU5.new t2 (fun i hi e => by omega))
end Go.Proofs.YtnadilfobmgebaaGreatDoor
