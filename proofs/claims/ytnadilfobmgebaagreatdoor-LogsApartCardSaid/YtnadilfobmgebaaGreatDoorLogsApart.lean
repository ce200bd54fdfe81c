/- The three logs do not touch one another, nor any other part of the device. -/
import Derived.Test.YtnadilfobmgebaaGreatDoorG39
import Derived.Test.YtnadilfobmgebaaGreatDoorG30
import Derived.Test.YtnadilfobmgebaaGreatDoorG05
namespace Go.Proofs.YtnadilfobmgebaaGreatDoor.logsApart
open Go Go.RowKit Go.ChangeShapes Go.WideShapes Go.ChangeAt Go.Proofs.YtnadilfobmgebaaGreatDoor
set_option maxRecDepth 100000 in
set_option maxHeartbeats 4000000 in
theorem walk (sectors which id : Int) (h1 : InR sectors) (h2 : InR which) (h3 : InR id) (w : World) (nib : Nib w) (tur : Tur w) : Calls Tryz.prog 4 #[.int .i64 sectors, .int .i64 which, .int .i64 id] w fun e w' => e = .returned (.bool true) ∧ Below w.heap.size w w' := by
  have HT := Lib.hid (And.intro nib (And.intro tur (And.intro h1 (And.intro h2 h3))))
  unfold InR at h1 h2 h3
  clear nib tur
  by_cases hr : 1 ≤ sectors ∧ sectors ≤ 12 ∧ 0 ≤ which ∧ which ≤ 2
  · obtain ⟨k, rfl⟩ : ∃ k : Nat, sectors = k := ⟨sectors.toNat, by omega⟩
    obtain ⟨p1, p2, p3, p4⟩ := hr
    have HK : Hid (1 ≤ k ∧ k ≤ 12 ∧ 0 ≤ which ∧ which ≤ 2) := ⟨by omega, by omega, p3, p4⟩
    have HO := Lib.hid (opened_ok k (by omega) (by omega) w HT.out.1 HT.out.2.1)
    go_enter Tryz.func4, Tryz.ntmps4
    go_wp2_with fail
    refine HO.out.mono ?_
    rintro e w1 ⟨li, lc, lf, d, S, rfl, hL, hS, hb⟩
    obtain ⟨w2, hw2⟩ : ∃ w2, w2 = w1.alloc (.cells #[ptr li, ptr lc, ptr lf] 28) := ⟨_, rfl⟩
    have hg2 : w2.heap[w1.heap.size]? = some (.cells #[ptr li, ptr lc, ptr lf] 28 (0, 0)) := by rw [hw2]; exact heap_alloc_last w1 _ rfl
    have hb2 : Below w1.heap.size w1 w2 := by rw [hw2]; exact (Below.refl _ w1).alloc (Nat.le_refl _) _
    have hd2 : Dv S w2 d (devL k) [] [] := hL.dv.below hb2
    have HW := Lib.hid hw2
    have H1 := Lib.hid (And.intro hL (And.intro hS (And.intro hb (And.intro hg2 hb2))))
    clear hL hS hb hg2 hb2 hw2
    clear p1 p2 p3 p4
    go_wp2_with fail
    rw [← HW.out]
    refine (dcopy hd2).mono ?_
    rintro e w3 ⟨b', rfl, hd3, hb3⟩
    have H3 := Lib.hid (And.intro hd3 hb3)
    clear hd3 hb3 hd2
    go_wp2_with fail
    refine (small_ok _).mono ?_
    rintro e w4 ⟨rfl, hb4⟩
    have H4 := Lib.hid hb4
    clear hb4
    obtain ⟨L7, hL7⟩ : ∃ L, L = superC 7 9 2 8 1 2 3 := ⟨_, rfl⟩
    have i7 : Hid (L7.length = 7) := by show _ = _; rw [hL7]; rfl
    have s7 : Hid ((Tryz.prog.info? 34).map (·.size) = some L7.length) := by show _ = _; rw [i7.out]; exact infoSup
    have o7 : Hid (∀ v ∈ L7, v.oneCell' = true) := by show ∀ v ∈ L7, _; rw [hL7]; exact superC_one 7 9 2 8 1 2 3
    have HL7 := Lib.hid hL7
    rw [← hL7]
    clear hL7
    obtain ⟨w5, hw5⟩ : ∃ w5, w5 = (w4.alloc (.cells L7.toArray 34)).alloc (.cells #[.int .i64 2, .int .i64 3] 37) := ⟨_, rfl⟩
    have hb5 : Below w4.heap.size w4 w5 := by rw [hw5]; exact ((Below.refl _ w4).alloc (Nat.le_refl _) _).alloc (by simp) _
    obtain ⟨hL, hS, hb, hg2, hb2⟩ := H1.out
    obtain ⟨hd3, hb3⟩ := H3.out
    have z2 := hb2.size
    have z3 := hb3.size
    have z4 := H4.out.size
    have z5 := hb5.size
    have z1 := lt_of_block hg2
    have hB25 : Below w1.heap.size w1 w5 := ((hb2.trans (hb3.mono z2)).trans (H4.out.mono (by omega))).trans (hb5.mono (by omega))
    have hL5 := hL.beside hB25
    have hg5 := (hb5.block w1.heap.size (by omega)).trans ((H4.out.block w1.heap.size (by omega)).trans ((hb3.block w1.heap.size z1).trans hg2))
    have hs5 : w5.heap[w4.heap.size]? = some (.cells L7.toArray 34 (0, 0)) := by
      rw [hw5, Below.heap_alloc _ _ _ (by simp)]; exact heap_alloc_last w4 _ rfl
    have hz5 : w5.heap.size = w4.heap.size + 2 := by rw [hw5]; simp
    have hd5 : Dv (fun j => w1.heap.size ≤ j ∧ j < w5.heap.size) w5 b' (devL k) [] [] := ((hd3.below H4.out).below hb5).out (fun j hj hs => ⟨by omega, hj⟩)
    have c0 : w5.cell? ⟨w1.heap.size, 0, none⟩ = some (ptr li) := cell_of_block hg5 0
    have c1 : w5.cell? ⟨w1.heap.size, 1, none⟩ = some (ptr lc) := cell_of_block hg5 1
    have c2 : w5.cell? ⟨w1.heap.size, 2, none⟩ = some (ptr lf) := cell_of_block hg5 2
    have d0 : w5.cell? ⟨w4.heap.size + 1, 0, none⟩ = some (.int .i64 2) := by
      rw [hw5]; exact cell_of_block (heap_alloc_last (w4.alloc (.cells L7.toArray 34)) (.cells #[.int .i64 2, .int .i64 3] 37) (by simp)) 0
    have d1 : w5.cell? ⟨w4.heap.size + 1, 1, none⟩ = some (.int .i64 3) := by
      rw [hw5]; exact cell_of_block (heap_alloc_last (w4.alloc (.cells L7.toArray 34)) (.cells #[.int .i64 2, .int .i64 3] 37) (by simp)) 1
    have hB5 : Below w.heap.size w w5 := hb.trans (hB25.mono hb.size)
    have H5 := Lib.hid (And.intro hL5 (And.intro hS (And.intro hB5 (And.intro hg5 (And.intro hs5 (And.intro hd5 (And.intro hz5 (And.intro z1 (And.intro z2 (And.intro z3 (And.intro z4 z5)))))))))))
    have HW5 := Lib.hid hw5
    clear hL5 hS hB5 hg5 hs5 hd5 hz5 z1 z2 z3 z4 z5 hL hb hg2 hb2 hd3 hb3 hB25 hb5 hw5
    rcases (by have := HK.out; omega : which = 0 ∨ which = 1 ∨ which = 2) with rfl | rfl | rfl
    · rw [HW5.out] at c0 d0 d1
      clear c1 c2
      go_wp2_with (first
        | (refine wpList_store_new rfl _ _ _ rfl _ _ _ rfl rfl (by rw [i7.out]; rfl) s7.out o7.out ?_)
        | fail)
      rw [← HW5.out]
      refine (apart0 H5.out.1 HK.out.2.1 id).mono ?_
      rintro e w6 ⟨cd, F', rfl, hL6, hU6, hcase⟩
      obtain ⟨-, hS, hB5, -, hs5, hd5, hz5, z1, z2, z3, z4, z5⟩ := H5.out
      have hs6 := (hU6.block _ (lt_of_block hs5) (fun h => h.2 ⟨by omega, by omega⟩)).trans hs5
      have hd6 : Dv (fun j => w1.heap.size ≤ j ∧ j < w5.heap.size) w6 b' (devL k) [] [] := hd5.keep hU6 (fun j hj ht => ht.2 hj)
      have hB6 : Below w.heap.size w w6 := below_upd hB5 hU6 (Nat.le_refl _) (fun j h => hS j h.1)
      have e3 : w6.cell? ⟨w4.heap.size, 3, none⟩ = some (.int .i64 8) := (cell_of_block hs6 3).trans (by rw [List.getElem?_toArray, HL7.out]; rfl)
      have e4 : w6.cell? ⟨w4.heap.size, 4, none⟩ = some (.int .i64 1) := (cell_of_block hs6 4).trans (by rw [List.getElem?_toArray, HL7.out]; rfl)
      have hop : ∀ W, Below w6.heap.size w6 W → Calls Tryz.prog 26 #[ptr d] W fun e w' => e = .returned (.int .i64 0) ∧ w' = W := fun W hW => dopen (hL6.dv.below hW)
      have H6 := Lib.hid (And.intro hL6 (And.intro hd6 (And.intro hB6 hop)))
      have hk12 : (k : Int) ≤ 12 := by have := HK.out.2.1; omega
      clear hL6 hU6 hs6 hd6 hB6 hS hB5 hs5 hd5 hz5 z1 z2 z3 z4 z5 c0 d0 d1 HO hop
      have hrows : Hid ((cd = 0 → ∀ i, i < 13 + 3 * k → (!((devL k).getD i zB == F'.getD i zB)) = ((i : Int) == 11 + ((0 : Nat) : Int) * k + id)) ∧ (cd ≠ 0 → F' = devL k)) := by
        refine ⟨fun e i hi => ?_, fun e => hcase.elim (fun h => (e h.2.2.1).elim) (fun h => h.2.2)⟩
        rcases apart_rows (by decide : 0 ≤ 2) hcase (11 + ((0 : Nat) : Int) * k + id) (fun _ => rfl) i with h | h
        · rw [h, e]; rfl
        · omega
      have hcs : (0 ≤ id ∧ id < (k : Int) ∧ cd = 0) ∨ (¬ (0 ≤ id ∧ id < (k : Int)) ∧ cd ≠ 0) := hcase.elim (fun h => .inl ⟨h.1, h.2.1, h.2.2.1⟩) (fun h => .inr ⟨h.1, h.2.1⟩)
      clear hcase
      have hlast : (0 ≤ id ∧ id < (k : Int) ∧ cd = 0) ∨ (id < 0 ∧ (cd == 0) = false ∧ cd ≠ 0) ∨ (0 ≤ id ∧ (k : Int) ≤ id ∧ (cd == 0) = false ∧ cd ≠ 0) := by
        rcases hcs with h | ⟨h, hc⟩
        · exact .inl h
        · by_cases h0 : id < 0
          · exact .inr (.inl ⟨h0, by simpa using hc, hc⟩)
          · exact .inr (.inr ⟨by omega, by omega, by simpa using hc, hc⟩)
      clear hcs
      rcases hlast with ⟨p0, p1, hc0⟩ | ⟨p0, hq, hne⟩ | ⟨p0, p1, hq, hne⟩
      · have HR : Hid (∀ i, i < 13 + 3 * k → ((i : Int) = 11 + id ∧ ((devL k).getD i zB == F'.getD i zB) = false) ∨ (¬ (i : Int) = 11 + id ∧ ((devL k).getD i zB == F'.getD i zB) = true)) := fun i hi => by
          have h := hrows.out.1 hc0 i hi
          by_cases e : (i : Int) = 11 + id
          · left; refine ⟨e, ?_⟩
            rw [show ((i : Int) == 11 + ((0 : Nat) : Int) * k + id) = true by rw [beq_iff_eq, e]; omega] at h
            simpa using h
          · right; refine ⟨e, ?_⟩
            rw [show ((i : Int) == 11 + ((0 : Nat) : Int) * k + id) = false by rw [beq_eq_false_iff_ne]; intro h2; apply e; rw [h2]; omega] at h
            simpa using h
        clear hrows
        subst hc0
        go_wp2_with (first
          | (go_at_call 26; refine (H6.out.2.2.2 _ (Below.refl _ _)).mono ?_; rintro e w7 ⟨rfl, rfl⟩)
          | fail)
        have HP := Lib.hid (And.intro p0 e3)
        clear e3 e4
        go_loopw [14] (fun s14 wr => ∃ i : Nat, i ≤ 13 + 3 * k ∧ s14 = .int .i64 i ∧ Below w7.heap.size w7 wr) (fun s14 _ => 13 + 3 * k - (intOf s14).toNat)
        case atStart => exact ⟨0, Nat.zero_le _, rfl, Below.refl _ _⟩
        case round =>
          obtain ⟨i, hi, rfl, hbr⟩ := hrel
          have HB := Lib.hid hbr
          have hsize := fun (W : World) (h : Below w7.heap.size w7 W) => asize H6.out.1 h
          by_cases hlt : i < 13 + 3 * k
          · have hlt' : (i : Int) < ((13 + 3 * k : Nat) : Int) := by omega
            have f1 := Lib.hid (fun (W : World) (h : Below w7.heap.size w7 W) => afirm (H6.out.2.1.below h) (i := i) (by rw [devL_len]; exact hlt))
            have f2 := Lib.hid (fun (W : World) (h : Below w7.heap.size w7 W) => afirm (H6.out.1.dv.below h) (i := i) (by rw [H6.out.1.fl]; exact hlt))
            have l1 : Hid (((devL k).getD i zB).length = 64) := arow H6.out.2.1
            have l2 : Hid ((F'.getD i zB).length = 64) := arow H6.out.1.dv
            have hab := HR.out i hlt
            generalize (devL k).getD i zB = ya at *
            generalize F'.getD i zB = yb at *
            have hqe := eqIn_bk ya yb l1.out l2.out
            have HQ := Lib.hid hab
            clear hab
            go_wp2_with (first
              | (go_at_call 27; refine (hsize _ HB.out).mono ?_; rintro e w8 ⟨rfl, rfl⟩)
              | fail)
            refine (f1.out _ HB.out).mono ?_
            rintro e w9 ⟨rfl, hb9⟩
            have HB9 := Lib.hid (HB.out.trans (hb9.mono HB.out.size))
            clear hb9 hbr hsize
            go_wp2_with (first
              | (refine wpList_store_new rfl _ _ _ rfl _ _ (bkC ya) rfl rfl (by rw [bkC_len, l1.out]; rfl) (sizeBk _ l1.out) (bkC_one _) ?_)
              | fail)
            have hgA := heap_alloc_last w9 (.cells (bkC ya).toArray 23) rfl
            have hBA : Below w7.heap.size w7 (w9.alloc (.cells (bkC ya).toArray 23)) := HB9.out.alloc HB9.out.size _
            generalize w9.alloc (.cells (bkC ya).toArray 23) = wa at *
            refine (f2.out _ hBA).mono ?_
            rintro e w10 ⟨rfl, hb10⟩
            have hgA' := (hb10.block _ (lt_of_block hgA)).trans hgA
            have HB10 := Lib.hid (hBA.trans (hb10.mono hBA.size))
            have rA := World.rangeAt_alloc (range_of_block hgA') (.cells (bkC yb).toArray 23)
            have rB := range_of_block (heap_alloc_last w10 (.cells (bkC yb).toArray 23) rfl)
            clear hgA hgA' hBA hb10
            rcases HQ.out with ⟨hio, hab⟩ | ⟨hio, hab⟩
            · have qi : ((i : Int) == 11 + id) = true := by simpa using hio
              clear hio
              go_wp2_with (first
                | (refine wpList_store_new rfl _ _ _ rfl _ _ (bkC yb) rfl rfl (by rw [bkC_len, l2.out]; rfl) (sizeBk _ l2.out) (bkC_one _) ?_)
                | (refine wpList_load_midW (by rfl) _ _ rfl _ _ rfl _ _ rA Tryz.underlying23 rfl (sizeBk _ l1.out) ?_)
                | (refine wpList_load_midW (by rfl) _ _ rfl _ _ rfl _ _ rB Tryz.underlying23 rfl (sizeBk _ l2.out) ?_)
                | fail)
              go_roundw
              case rel => exact ⟨i + 1, by omega, by go_num, HB10.out.alloc HB10.out.size _⟩
              case measure => simp [intOf]; omega
            · have qi : ((i : Int) == 11 + id) = false := by simpa using hio
              clear hio
              go_wp2_with (first
                | (refine wpList_store_new rfl _ _ _ rfl _ _ (bkC yb) rfl rfl (by rw [bkC_len, l2.out]; rfl) (sizeBk _ l2.out) (bkC_one _) ?_)
                | (refine wpList_load_midW (by rfl) _ _ rfl _ _ rfl _ _ rA Tryz.underlying23 rfl (sizeBk _ l1.out) ?_)
                | (refine wpList_load_midW (by rfl) _ _ rfl _ _ rfl _ _ rB Tryz.underlying23 rfl (sizeBk _ l2.out) ?_)
                | fail)
              go_roundw
              case rel => exact ⟨i + 1, by omega, by go_num, HB10.out.alloc HB10.out.size _⟩
              case measure => simp [intOf]; omega
          · obtain rfl : i = 13 + 3 * k := by omega
            have hlt' : ¬ ((13 + 3 * k : Nat) : Int) < ((13 + 3 * k : Nat) : Int) := by omega
            have hbw : Below w.heap.size w _ := H6.out.2.2.1.trans (HB.out.mono H6.out.2.2.1.size)
            have HW8 := Lib.hid hbw
            clear hbw hbr
            go_wp2_with (first
              | (go_at_call 27; refine (hsize _ HB.out).mono ?_; rintro e w8 ⟨rfl, rfl⟩)
              | fail)
            refine (awake17 _ (HT.out.1.below HW8.out) (HT.out.2.1.below HW8.out)).mono ?_
            rintro e w9 ⟨rfl, hb9⟩
            have HB9 := Lib.hid (HW8.out.trans (hb9.mono HW8.out.size))
            clear hb9 hsize
            go_wp2
            go_ret
            exact ⟨rfl, HB9.out⟩
      · have HR : Hid (∀ i, ((devL k).getD i zB == F'.getD i zB) = true) := fun i => by rw [hrows.out.2 hne]; simp
        clear hne hrows
        go_wp2_with (first
          | (go_at_call 26; refine (H6.out.2.2.2 _ (Below.refl _ _)).mono ?_; rintro e w7 ⟨rfl, rfl⟩)
          | fail)
        have HP := Lib.hid (And.intro p0 e3)
        clear e3 e4
        go_loopw [14] (fun s14 wr => ∃ i : Nat, i ≤ 13 + 3 * k ∧ s14 = .int .i64 i ∧ Below w7.heap.size w7 wr) (fun s14 _ => 13 + 3 * k - (intOf s14).toNat)
        case atStart => exact ⟨0, Nat.zero_le _, rfl, Below.refl _ _⟩
        case round =>
          obtain ⟨i, hi, rfl, hbr⟩ := hrel
          have HB := Lib.hid hbr
          have hsize := fun (W : World) (h : Below w7.heap.size w7 W) => asize H6.out.1 h
          by_cases hlt : i < 13 + 3 * k
          · have hlt' : (i : Int) < ((13 + 3 * k : Nat) : Int) := by omega
            have f1 := Lib.hid (fun (W : World) (h : Below w7.heap.size w7 W) => afirm (H6.out.2.1.below h) (i := i) (by rw [devL_len]; exact hlt))
            have f2 := Lib.hid (fun (W : World) (h : Below w7.heap.size w7 W) => afirm (H6.out.1.dv.below h) (i := i) (by rw [H6.out.1.fl]; exact hlt))
            have l1 : Hid (((devL k).getD i zB).length = 64) := arow H6.out.2.1
            have l2 : Hid ((F'.getD i zB).length = 64) := arow H6.out.1.dv
            have hab := HR.out i
            generalize (devL k).getD i zB = ya at *
            generalize F'.getD i zB = yb at *
            have hqe := eqIn_bk ya yb l1.out l2.out
            have HQ := Lib.hid hab
            clear hab
            go_wp2_with (first
              | (go_at_call 27; refine (hsize _ HB.out).mono ?_; rintro e w8 ⟨rfl, rfl⟩)
              | fail)
            refine (f1.out _ HB.out).mono ?_
            rintro e w9 ⟨rfl, hb9⟩
            have HB9 := Lib.hid (HB.out.trans (hb9.mono HB.out.size))
            clear hb9 hbr hsize
            go_wp2_with (first
              | (refine wpList_store_new rfl _ _ _ rfl _ _ (bkC ya) rfl rfl (by rw [bkC_len, l1.out]; rfl) (sizeBk _ l1.out) (bkC_one _) ?_)
              | fail)
            have hgA := heap_alloc_last w9 (.cells (bkC ya).toArray 23) rfl
            have hBA : Below w7.heap.size w7 (w9.alloc (.cells (bkC ya).toArray 23)) := HB9.out.alloc HB9.out.size _
            generalize w9.alloc (.cells (bkC ya).toArray 23) = wa at *
            refine (f2.out _ hBA).mono ?_
            rintro e w10 ⟨rfl, hb10⟩
            have hgA' := (hb10.block _ (lt_of_block hgA)).trans hgA
            have HB10 := Lib.hid (hBA.trans (hb10.mono hBA.size))
            have rA := World.rangeAt_alloc (range_of_block hgA') (.cells (bkC yb).toArray 23)
            have rB := range_of_block (heap_alloc_last w10 (.cells (bkC yb).toArray 23) rfl)
            clear hgA hgA' hBA hb10
            have hab := HQ.out
            go_wp2_with (first
              | (refine wpList_store_new rfl _ _ _ rfl _ _ (bkC yb) rfl rfl (by rw [bkC_len, l2.out]; rfl) (sizeBk _ l2.out) (bkC_one _) ?_)
              | (refine wpList_load_midW (by rfl) _ _ rfl _ _ rfl _ _ rA Tryz.underlying23 rfl (sizeBk _ l1.out) ?_)
              | (refine wpList_load_midW (by rfl) _ _ rfl _ _ rfl _ _ rB Tryz.underlying23 rfl (sizeBk _ l2.out) ?_)
              | fail)
            go_roundw
            case rel => exact ⟨i + 1, by omega, by go_num, HB10.out.alloc HB10.out.size _⟩
            case measure => simp [intOf]; omega
          · obtain rfl : i = 13 + 3 * k := by omega
            have hlt' : ¬ ((13 + 3 * k : Nat) : Int) < ((13 + 3 * k : Nat) : Int) := by omega
            have hbw : Below w.heap.size w _ := H6.out.2.2.1.trans (HB.out.mono H6.out.2.2.1.size)
            have HW8 := Lib.hid hbw
            clear hbw hbr
            go_wp2_with (first
              | (go_at_call 27; refine (hsize _ HB.out).mono ?_; rintro e w8 ⟨rfl, rfl⟩)
              | fail)
            refine (awake17 _ (HT.out.1.below HW8.out) (HT.out.2.1.below HW8.out)).mono ?_
            rintro e w9 ⟨rfl, hb9⟩
            have HB9 := Lib.hid (HW8.out.trans (hb9.mono HW8.out.size))
            clear hb9 hsize
            go_wp2
            go_ret
            exact ⟨rfl, HB9.out⟩
      · have HR : Hid (∀ i, ((devL k).getD i zB == F'.getD i zB) = true) := fun i => by rw [hrows.out.2 hne]; simp
        clear hne hrows
        go_wp2_with (first
          | (go_at_call 26; refine (H6.out.2.2.2 _ (Below.refl _ _)).mono ?_; rintro e w7 ⟨rfl, rfl⟩)
          | fail)
        have HP := Lib.hid (And.intro p0 e3)
        clear e3 e4
        go_loopw [14] (fun s14 wr => ∃ i : Nat, i ≤ 13 + 3 * k ∧ s14 = .int .i64 i ∧ Below w7.heap.size w7 wr) (fun s14 _ => 13 + 3 * k - (intOf s14).toNat)
        case atStart => exact ⟨0, Nat.zero_le _, rfl, Below.refl _ _⟩
        case round =>
          obtain ⟨i, hi, rfl, hbr⟩ := hrel
          have HB := Lib.hid hbr
          have hsize := fun (W : World) (h : Below w7.heap.size w7 W) => asize H6.out.1 h
          by_cases hlt : i < 13 + 3 * k
          · have hlt' : (i : Int) < ((13 + 3 * k : Nat) : Int) := by omega
            have f1 := Lib.hid (fun (W : World) (h : Below w7.heap.size w7 W) => afirm (H6.out.2.1.below h) (i := i) (by rw [devL_len]; exact hlt))
            have f2 := Lib.hid (fun (W : World) (h : Below w7.heap.size w7 W) => afirm (H6.out.1.dv.below h) (i := i) (by rw [H6.out.1.fl]; exact hlt))
            have l1 : Hid (((devL k).getD i zB).length = 64) := arow H6.out.2.1
            have l2 : Hid ((F'.getD i zB).length = 64) := arow H6.out.1.dv
            have hab := HR.out i
            generalize (devL k).getD i zB = ya at *
            generalize F'.getD i zB = yb at *
            have hqe := eqIn_bk ya yb l1.out l2.out
            have HQ := Lib.hid hab
            clear hab
            go_wp2_with (first
              | (go_at_call 27; refine (hsize _ HB.out).mono ?_; rintro e w8 ⟨rfl, rfl⟩)
              | fail)
            refine (f1.out _ HB.out).mono ?_
            rintro e w9 ⟨rfl, hb9⟩
            have HB9 := Lib.hid (HB.out.trans (hb9.mono HB.out.size))
            clear hb9 hbr hsize
            go_wp2_with (first
              | (refine wpList_store_new rfl _ _ _ rfl _ _ (bkC ya) rfl rfl (by rw [bkC_len, l1.out]; rfl) (sizeBk _ l1.out) (bkC_one _) ?_)
              | fail)
            have hgA := heap_alloc_last w9 (.cells (bkC ya).toArray 23) rfl
            have hBA : Below w7.heap.size w7 (w9.alloc (.cells (bkC ya).toArray 23)) := HB9.out.alloc HB9.out.size _
            generalize w9.alloc (.cells (bkC ya).toArray 23) = wa at *
            refine (f2.out _ hBA).mono ?_
            rintro e w10 ⟨rfl, hb10⟩
            have hgA' := (hb10.block _ (lt_of_block hgA)).trans hgA
            have HB10 := Lib.hid (hBA.trans (hb10.mono hBA.size))
            have rA := World.rangeAt_alloc (range_of_block hgA') (.cells (bkC yb).toArray 23)
            have rB := range_of_block (heap_alloc_last w10 (.cells (bkC yb).toArray 23) rfl)
            clear hgA hgA' hBA hb10
            have hab := HQ.out
            go_wp2_with (first
              | (refine wpList_store_new rfl _ _ _ rfl _ _ (bkC yb) rfl rfl (by rw [bkC_len, l2.out]; rfl) (sizeBk _ l2.out) (bkC_one _) ?_)
              | (refine wpList_load_midW (by rfl) _ _ rfl _ _ rfl _ _ rA Tryz.underlying23 rfl (sizeBk _ l1.out) ?_)
              | (refine wpList_load_midW (by rfl) _ _ rfl _ _ rfl _ _ rB Tryz.underlying23 rfl (sizeBk _ l2.out) ?_)
              | fail)
            go_roundw
            case rel => exact ⟨i + 1, by omega, by go_num, HB10.out.alloc HB10.out.size _⟩
            case measure => simp [intOf]; omega
          · obtain rfl : i = 13 + 3 * k := by omega
            have hlt' : ¬ ((13 + 3 * k : Nat) : Int) < ((13 + 3 * k : Nat) : Int) := by omega
            have hbw : Below w.heap.size w _ := H6.out.2.2.1.trans (HB.out.mono H6.out.2.2.1.size)
            have HW8 := Lib.hid hbw
            clear hbw hbr
            go_wp2_with (first
              | (go_at_call 27; refine (hsize _ HB.out).mono ?_; rintro e w8 ⟨rfl, rfl⟩)
              | fail)
            refine (awake17 _ (HT.out.1.below HW8.out) (HT.out.2.1.below HW8.out)).mono ?_
            rintro e w9 ⟨rfl, hb9⟩
            have HB9 := Lib.hid (HW8.out.trans (hb9.mono HW8.out.size))
            clear hb9 hsize
            go_wp2
            go_ret
            exact ⟨rfl, HB9.out⟩
    · rw [HW5.out] at c1 d0 d1
      clear c0 c2
      go_wp2_with (first
        | (refine wpList_store_new rfl _ _ _ rfl _ _ _ rfl rfl (by rw [i7.out]; rfl) s7.out o7.out ?_)
        | fail)
      rw [← HW5.out]
      refine (apart1 H5.out.1 HK.out.2.1 id).mono ?_
      rintro e w6 ⟨cd, F', rfl, hL6, hU6, hcase⟩
      obtain ⟨-, hS, hB5, -, hs5, hd5, hz5, z1, z2, z3, z4, z5⟩ := H5.out
      have hs6 := (hU6.block _ (lt_of_block hs5) (fun h => h.2 ⟨by omega, by omega⟩)).trans hs5
      have hd6 : Dv (fun j => w1.heap.size ≤ j ∧ j < w5.heap.size) w6 b' (devL k) [] [] := hd5.keep hU6 (fun j hj ht => ht.2 hj)
      have hB6 : Below w.heap.size w w6 := below_upd hB5 hU6 (Nat.le_refl _) (fun j h => hS j h.1)
      have e3 : w6.cell? ⟨w4.heap.size, 3, none⟩ = some (.int .i64 8) := (cell_of_block hs6 3).trans (by rw [List.getElem?_toArray, HL7.out]; rfl)
      have e4 : w6.cell? ⟨w4.heap.size, 4, none⟩ = some (.int .i64 1) := (cell_of_block hs6 4).trans (by rw [List.getElem?_toArray, HL7.out]; rfl)
      have hop : ∀ W, Below w6.heap.size w6 W → Calls Tryz.prog 26 #[ptr d] W fun e w' => e = .returned (.int .i64 0) ∧ w' = W := fun W hW => dopen (hL6.dv.below hW)
      have H6 := Lib.hid (And.intro hL6 (And.intro hd6 (And.intro hB6 hop)))
      have hk12 : (k : Int) ≤ 12 := by have := HK.out.2.1; omega
      clear hL6 hU6 hs6 hd6 hB6 hS hB5 hs5 hd5 hz5 z1 z2 z3 z4 z5 c1 d0 d1 HO hop
      have hrows : Hid ((cd = 0 → ∀ i, i < 13 + 3 * k → (!((devL k).getD i zB == F'.getD i zB)) = ((i : Int) == 11 + ((1 : Nat) : Int) * k + id)) ∧ (cd ≠ 0 → F' = devL k)) := by
        refine ⟨fun e i hi => ?_, fun e => hcase.elim (fun h => (e h.2.2.1).elim) (fun h => h.2.2)⟩
        rcases apart_rows (by decide : 1 ≤ 2) hcase (11 + ((1 : Nat) : Int) * k + id) (fun _ => rfl) i with h | h
        · rw [h, e]; rfl
        · omega
      have hcs : (0 ≤ id ∧ id < (k : Int) ∧ cd = 0) ∨ (¬ (0 ≤ id ∧ id < (k : Int)) ∧ cd ≠ 0) := hcase.elim (fun h => .inl ⟨h.1, h.2.1, h.2.2.1⟩) (fun h => .inr ⟨h.1, h.2.1⟩)
      clear hcase
      have hlast : (0 ≤ id ∧ id < (k : Int) ∧ cd = 0) ∨ (id < 0 ∧ (cd == 0) = false ∧ cd ≠ 0) ∨ (0 ≤ id ∧ (k : Int) ≤ id ∧ (cd == 0) = false ∧ cd ≠ 0) := by
        rcases hcs with h | ⟨h, hc⟩
        · exact .inl h
        · by_cases h0 : id < 0
          · exact .inr (.inl ⟨h0, by simpa using hc, hc⟩)
          · exact .inr (.inr ⟨by omega, by omega, by simpa using hc, hc⟩)
      clear hcs
      rcases hlast with ⟨p0, p1, hc0⟩ | ⟨p0, hq, hne⟩ | ⟨p0, p1, hq, hne⟩
      · have HR : Hid (∀ i, i < 13 + 3 * k → ((i : Int) = 11 + (k : Int) + id ∧ ((devL k).getD i zB == F'.getD i zB) = false) ∨ (¬ (i : Int) = 11 + (k : Int) + id ∧ ((devL k).getD i zB == F'.getD i zB) = true)) := fun i hi => by
          have h := hrows.out.1 hc0 i hi
          by_cases e : (i : Int) = 11 + (k : Int) + id
          · left; refine ⟨e, ?_⟩
            rw [show ((i : Int) == 11 + ((1 : Nat) : Int) * k + id) = true by rw [beq_iff_eq, e]; omega] at h
            simpa using h
          · right; refine ⟨e, ?_⟩
            rw [show ((i : Int) == 11 + ((1 : Nat) : Int) * k + id) = false by rw [beq_eq_false_iff_ne]; intro h2; apply e; rw [h2]; omega] at h
            simpa using h
        clear hrows
        subst hc0
        go_wp2_with (first
          | (go_at_call 26; refine (H6.out.2.2.2 _ (Below.refl _ _)).mono ?_; rintro e w7 ⟨rfl, rfl⟩)
          | fail)
        have HP := Lib.hid (And.intro p0 e3)
        clear e3 e4
        go_loopw [14] (fun s14 wr => ∃ i : Nat, i ≤ 13 + 3 * k ∧ s14 = .int .i64 i ∧ Below w7.heap.size w7 wr) (fun s14 _ => 13 + 3 * k - (intOf s14).toNat)
        case atStart => exact ⟨0, Nat.zero_le _, rfl, Below.refl _ _⟩
        case round =>
          obtain ⟨i, hi, rfl, hbr⟩ := hrel
          have HB := Lib.hid hbr
          have hsize := fun (W : World) (h : Below w7.heap.size w7 W) => asize H6.out.1 h
          by_cases hlt : i < 13 + 3 * k
          · have hlt' : (i : Int) < ((13 + 3 * k : Nat) : Int) := by omega
            have f1 := Lib.hid (fun (W : World) (h : Below w7.heap.size w7 W) => afirm (H6.out.2.1.below h) (i := i) (by rw [devL_len]; exact hlt))
            have f2 := Lib.hid (fun (W : World) (h : Below w7.heap.size w7 W) => afirm (H6.out.1.dv.below h) (i := i) (by rw [H6.out.1.fl]; exact hlt))
            have l1 : Hid (((devL k).getD i zB).length = 64) := arow H6.out.2.1
            have l2 : Hid ((F'.getD i zB).length = 64) := arow H6.out.1.dv
            have hab := HR.out i hlt
            generalize (devL k).getD i zB = ya at *
            generalize F'.getD i zB = yb at *
            have hqe := eqIn_bk ya yb l1.out l2.out
            have HQ := Lib.hid hab
            clear hab
            go_wp2_with (first
              | (go_at_call 27; refine (hsize _ HB.out).mono ?_; rintro e w8 ⟨rfl, rfl⟩)
              | fail)
            refine (f1.out _ HB.out).mono ?_
            rintro e w9 ⟨rfl, hb9⟩
            have HB9 := Lib.hid (HB.out.trans (hb9.mono HB.out.size))
            clear hb9 hbr hsize
            go_wp2_with (first
              | (refine wpList_store_new rfl _ _ _ rfl _ _ (bkC ya) rfl rfl (by rw [bkC_len, l1.out]; rfl) (sizeBk _ l1.out) (bkC_one _) ?_)
              | fail)
            have hgA := heap_alloc_last w9 (.cells (bkC ya).toArray 23) rfl
            have hBA : Below w7.heap.size w7 (w9.alloc (.cells (bkC ya).toArray 23)) := HB9.out.alloc HB9.out.size _
            generalize w9.alloc (.cells (bkC ya).toArray 23) = wa at *
            refine (f2.out _ hBA).mono ?_
            rintro e w10 ⟨rfl, hb10⟩
            have hgA' := (hb10.block _ (lt_of_block hgA)).trans hgA
            have HB10 := Lib.hid (hBA.trans (hb10.mono hBA.size))
            have rA := World.rangeAt_alloc (range_of_block hgA') (.cells (bkC yb).toArray 23)
            have rB := range_of_block (heap_alloc_last w10 (.cells (bkC yb).toArray 23) rfl)
            clear hgA hgA' hBA hb10
            rcases HQ.out with ⟨hio, hab⟩ | ⟨hio, hab⟩
            · have qi : ((i : Int) == 11 + (k : Int) + id) = true := by simpa using hio
              clear hio
              go_wp2_with (first
                | (refine wpList_store_new rfl _ _ _ rfl _ _ (bkC yb) rfl rfl (by rw [bkC_len, l2.out]; rfl) (sizeBk _ l2.out) (bkC_one _) ?_)
                | (refine wpList_load_midW (by rfl) _ _ rfl _ _ rfl _ _ rA Tryz.underlying23 rfl (sizeBk _ l1.out) ?_)
                | (refine wpList_load_midW (by rfl) _ _ rfl _ _ rfl _ _ rB Tryz.underlying23 rfl (sizeBk _ l2.out) ?_)
                | fail)
              go_roundw
              case rel => exact ⟨i + 1, by omega, by go_num, HB10.out.alloc HB10.out.size _⟩
              case measure => simp [intOf]; omega
            · have qi : ((i : Int) == 11 + (k : Int) + id) = false := by simpa using hio
              clear hio
              go_wp2_with (first
                | (refine wpList_store_new rfl _ _ _ rfl _ _ (bkC yb) rfl rfl (by rw [bkC_len, l2.out]; rfl) (sizeBk _ l2.out) (bkC_one _) ?_)
                | (refine wpList_load_midW (by rfl) _ _ rfl _ _ rfl _ _ rA Tryz.underlying23 rfl (sizeBk _ l1.out) ?_)
                | (refine wpList_load_midW (by rfl) _ _ rfl _ _ rfl _ _ rB Tryz.underlying23 rfl (sizeBk _ l2.out) ?_)
                | fail)
              go_roundw
              case rel => exact ⟨i + 1, by omega, by go_num, HB10.out.alloc HB10.out.size _⟩
              case measure => simp [intOf]; omega
          · obtain rfl : i = 13 + 3 * k := by omega
            have hlt' : ¬ ((13 + 3 * k : Nat) : Int) < ((13 + 3 * k : Nat) : Int) := by omega
            have hbw : Below w.heap.size w _ := H6.out.2.2.1.trans (HB.out.mono H6.out.2.2.1.size)
            have HW8 := Lib.hid hbw
            clear hbw hbr
            go_wp2_with (first
              | (go_at_call 27; refine (hsize _ HB.out).mono ?_; rintro e w8 ⟨rfl, rfl⟩)
              | fail)
            refine (awake17 _ (HT.out.1.below HW8.out) (HT.out.2.1.below HW8.out)).mono ?_
            rintro e w9 ⟨rfl, hb9⟩
            have HB9 := Lib.hid (HW8.out.trans (hb9.mono HW8.out.size))
            clear hb9 hsize
            go_wp2
            go_ret
            exact ⟨rfl, HB9.out⟩
      · have HR : Hid (∀ i, ((devL k).getD i zB == F'.getD i zB) = true) := fun i => by rw [hrows.out.2 hne]; simp
        clear hne hrows
        go_wp2_with (first
          | (go_at_call 26; refine (H6.out.2.2.2 _ (Below.refl _ _)).mono ?_; rintro e w7 ⟨rfl, rfl⟩)
          | fail)
        have HP := Lib.hid (And.intro p0 e3)
        clear e3 e4
        go_loopw [14] (fun s14 wr => ∃ i : Nat, i ≤ 13 + 3 * k ∧ s14 = .int .i64 i ∧ Below w7.heap.size w7 wr) (fun s14 _ => 13 + 3 * k - (intOf s14).toNat)
        case atStart => exact ⟨0, Nat.zero_le _, rfl, Below.refl _ _⟩
        case round =>
          obtain ⟨i, hi, rfl, hbr⟩ := hrel
          have HB := Lib.hid hbr
          have hsize := fun (W : World) (h : Below w7.heap.size w7 W) => asize H6.out.1 h
          by_cases hlt : i < 13 + 3 * k
          · have hlt' : (i : Int) < ((13 + 3 * k : Nat) : Int) := by omega
            have f1 := Lib.hid (fun (W : World) (h : Below w7.heap.size w7 W) => afirm (H6.out.2.1.below h) (i := i) (by rw [devL_len]; exact hlt))
            have f2 := Lib.hid (fun (W : World) (h : Below w7.heap.size w7 W) => afirm (H6.out.1.dv.below h) (i := i) (by rw [H6.out.1.fl]; exact hlt))
            have l1 : Hid (((devL k).getD i zB).length = 64) := arow H6.out.2.1
            have l2 : Hid ((F'.getD i zB).length = 64) := arow H6.out.1.dv
            have hab := HR.out i
            generalize (devL k).getD i zB = ya at *
            generalize F'.getD i zB = yb at *
            have hqe := eqIn_bk ya yb l1.out l2.out
            have HQ := Lib.hid hab
            clear hab
            go_wp2_with (first
              | (go_at_call 27; refine (hsize _ HB.out).mono ?_; rintro e w8 ⟨rfl, rfl⟩)
              | fail)
            refine (f1.out _ HB.out).mono ?_
            rintro e w9 ⟨rfl, hb9⟩
            have HB9 := Lib.hid (HB.out.trans (hb9.mono HB.out.size))
            clear hb9 hbr hsize
            go_wp2_with (first
              | (refine wpList_store_new rfl _ _ _ rfl _ _ (bkC ya) rfl rfl (by rw [bkC_len, l1.out]; rfl) (sizeBk _ l1.out) (bkC_one _) ?_)
              | fail)
            have hgA := heap_alloc_last w9 (.cells (bkC ya).toArray 23) rfl
            have hBA : Below w7.heap.size w7 (w9.alloc (.cells (bkC ya).toArray 23)) := HB9.out.alloc HB9.out.size _
            generalize w9.alloc (.cells (bkC ya).toArray 23) = wa at *
            refine (f2.out _ hBA).mono ?_
            rintro e w10 ⟨rfl, hb10⟩
            have hgA' := (hb10.block _ (lt_of_block hgA)).trans hgA
            have HB10 := Lib.hid (hBA.trans (hb10.mono hBA.size))
            have rA := World.rangeAt_alloc (range_of_block hgA') (.cells (bkC yb).toArray 23)
            have rB := range_of_block (heap_alloc_last w10 (.cells (bkC yb).toArray 23) rfl)
            clear hgA hgA' hBA hb10
            have hab := HQ.out
            go_wp2_with (first
              | (refine wpList_store_new rfl _ _ _ rfl _ _ (bkC yb) rfl rfl (by rw [bkC_len, l2.out]; rfl) (sizeBk _ l2.out) (bkC_one _) ?_)
              | (refine wpList_load_midW (by rfl) _ _ rfl _ _ rfl _ _ rA Tryz.underlying23 rfl (sizeBk _ l1.out) ?_)
              | (refine wpList_load_midW (by rfl) _ _ rfl _ _ rfl _ _ rB Tryz.underlying23 rfl (sizeBk _ l2.out) ?_)
              | fail)
            go_roundw
            case rel => exact ⟨i + 1, by omega, by go_num, HB10.out.alloc HB10.out.size _⟩
            case measure => simp [intOf]; omega
          · obtain rfl : i = 13 + 3 * k := by omega
            have hlt' : ¬ ((13 + 3 * k : Nat) : Int) < ((13 + 3 * k : Nat) : Int) := by omega
            have hbw : Below w.heap.size w _ := H6.out.2.2.1.trans (HB.out.mono H6.out.2.2.1.size)
            have HW8 := Lib.hid hbw
            clear hbw hbr
            go_wp2_with (first
              | (go_at_call 27; refine (hsize _ HB.out).mono ?_; rintro e w8 ⟨rfl, rfl⟩)
              | fail)
            refine (awake17 _ (HT.out.1.below HW8.out) (HT.out.2.1.below HW8.out)).mono ?_
            rintro e w9 ⟨rfl, hb9⟩
            have HB9 := Lib.hid (HW8.out.trans (hb9.mono HW8.out.size))
            clear hb9 hsize
            go_wp2
            go_ret
            exact ⟨rfl, HB9.out⟩
      · have HR : Hid (∀ i, ((devL k).getD i zB == F'.getD i zB) = true) := fun i => by rw [hrows.out.2 hne]; simp
        clear hne hrows
        go_wp2_with (first
          | (go_at_call 26; refine (H6.out.2.2.2 _ (Below.refl _ _)).mono ?_; rintro e w7 ⟨rfl, rfl⟩)
          | fail)
        have HP := Lib.hid (And.intro p0 e3)
        clear e3 e4
        go_loopw [14] (fun s14 wr => ∃ i : Nat, i ≤ 13 + 3 * k ∧ s14 = .int .i64 i ∧ Below w7.heap.size w7 wr) (fun s14 _ => 13 + 3 * k - (intOf s14).toNat)
        case atStart => exact ⟨0, Nat.zero_le _, rfl, Below.refl _ _⟩
        case round =>
          obtain ⟨i, hi, rfl, hbr⟩ := hrel
          have HB := Lib.hid hbr
          have hsize := fun (W : World) (h : Below w7.heap.size w7 W) => asize H6.out.1 h
          by_cases hlt : i < 13 + 3 * k
          · have hlt' : (i : Int) < ((13 + 3 * k : Nat) : Int) := by omega
            have f1 := Lib.hid (fun (W : World) (h : Below w7.heap.size w7 W) => afirm (H6.out.2.1.below h) (i := i) (by rw [devL_len]; exact hlt))
            have f2 := Lib.hid (fun (W : World) (h : Below w7.heap.size w7 W) => afirm (H6.out.1.dv.below h) (i := i) (by rw [H6.out.1.fl]; exact hlt))
            have l1 : Hid (((devL k).getD i zB).length = 64) := arow H6.out.2.1
            have l2 : Hid ((F'.getD i zB).length = 64) := arow H6.out.1.dv
            have hab := HR.out i
            generalize (devL k).getD i zB = ya at *
            generalize F'.getD i zB = yb at *
            have hqe := eqIn_bk ya yb l1.out l2.out
            have HQ := Lib.hid hab
            clear hab
            go_wp2_with (first
              | (go_at_call 27; refine (hsize _ HB.out).mono ?_; rintro e w8 ⟨rfl, rfl⟩)
              | fail)
            refine (f1.out _ HB.out).mono ?_
            rintro e w9 ⟨rfl, hb9⟩
            have HB9 := Lib.hid (HB.out.trans (hb9.mono HB.out.size))
            clear hb9 hbr hsize
            go_wp2_with (first
              | (refine wpList_store_new rfl _ _ _ rfl _ _ (bkC ya) rfl rfl (by rw [bkC_len, l1.out]; rfl) (sizeBk _ l1.out) (bkC_one _) ?_)
              | fail)
            have hgA := heap_alloc_last w9 (.cells (bkC ya).toArray 23) rfl
            have hBA : Below w7.heap.size w7 (w9.alloc (.cells (bkC ya).toArray 23)) := HB9.out.alloc HB9.out.size _
            generalize w9.alloc (.cells (bkC ya).toArray 23) = wa at *
            refine (f2.out _ hBA).mono ?_
            rintro e w10 ⟨rfl, hb10⟩
            have hgA' := (hb10.block _ (lt_of_block hgA)).trans hgA
            have HB10 := Lib.hid (hBA.trans (hb10.mono hBA.size))
            have rA := World.rangeAt_alloc (range_of_block hgA') (.cells (bkC yb).toArray 23)
            have rB := range_of_block (heap_alloc_last w10 (.cells (bkC yb).toArray 23) rfl)
            clear hgA hgA' hBA hb10
            have hab := HQ.out
            go_wp2_with (first
              | (refine wpList_store_new rfl _ _ _ rfl _ _ (bkC yb) rfl rfl (by rw [bkC_len, l2.out]; rfl) (sizeBk _ l2.out) (bkC_one _) ?_)
              | (refine wpList_load_midW (by rfl) _ _ rfl _ _ rfl _ _ rA Tryz.underlying23 rfl (sizeBk _ l1.out) ?_)
              | (refine wpList_load_midW (by rfl) _ _ rfl _ _ rfl _ _ rB Tryz.underlying23 rfl (sizeBk _ l2.out) ?_)
              | fail)
            go_roundw
            case rel => exact ⟨i + 1, by omega, by go_num, HB10.out.alloc HB10.out.size _⟩
            case measure => simp [intOf]; omega
          · obtain rfl : i = 13 + 3 * k := by omega
            have hlt' : ¬ ((13 + 3 * k : Nat) : Int) < ((13 + 3 * k : Nat) : Int) := by omega
            have hbw : Below w.heap.size w _ := H6.out.2.2.1.trans (HB.out.mono H6.out.2.2.1.size)
            have HW8 := Lib.hid hbw
            clear hbw hbr
            go_wp2_with (first
              | (go_at_call 27; refine (hsize _ HB.out).mono ?_; rintro e w8 ⟨rfl, rfl⟩)
              | fail)
            refine (awake17 _ (HT.out.1.below HW8.out) (HT.out.2.1.below HW8.out)).mono ?_
            rintro e w9 ⟨rfl, hb9⟩
            have HB9 := Lib.hid (HW8.out.trans (hb9.mono HW8.out.size))
            clear hb9 hsize
            go_wp2
            go_ret
            exact ⟨rfl, HB9.out⟩
    · rw [HW5.out] at c2 d0 d1
      clear c0 c1
      go_wp2_with (first
        | (refine wpList_store_new rfl _ _ _ rfl _ _ _ rfl rfl (by rw [i7.out]; rfl) s7.out o7.out ?_)
        | fail)
      rw [← HW5.out]
      refine (apart2 H5.out.1 HK.out.2.1 id).mono ?_
      rintro e w6 ⟨cd, F', rfl, hL6, hU6, hcase⟩
      obtain ⟨-, hS, hB5, -, hs5, hd5, hz5, z1, z2, z3, z4, z5⟩ := H5.out
      have hs6 := (hU6.block _ (lt_of_block hs5) (fun h => h.2 ⟨by omega, by omega⟩)).trans hs5
      have hd6 : Dv (fun j => w1.heap.size ≤ j ∧ j < w5.heap.size) w6 b' (devL k) [] [] := hd5.keep hU6 (fun j hj ht => ht.2 hj)
      have hB6 : Below w.heap.size w w6 := below_upd hB5 hU6 (Nat.le_refl _) (fun j h => hS j h.1)
      have e3 : w6.cell? ⟨w4.heap.size, 3, none⟩ = some (.int .i64 8) := (cell_of_block hs6 3).trans (by rw [List.getElem?_toArray, HL7.out]; rfl)
      have e4 : w6.cell? ⟨w4.heap.size, 4, none⟩ = some (.int .i64 1) := (cell_of_block hs6 4).trans (by rw [List.getElem?_toArray, HL7.out]; rfl)
      have hop : ∀ W, Below w6.heap.size w6 W → Calls Tryz.prog 26 #[ptr d] W fun e w' => e = .returned (.int .i64 0) ∧ w' = W := fun W hW => dopen (hL6.dv.below hW)
      have H6 := Lib.hid (And.intro hL6 (And.intro hd6 (And.intro hB6 hop)))
      have hk12 : (k : Int) ≤ 12 := by have := HK.out.2.1; omega
      clear hL6 hU6 hs6 hd6 hB6 hS hB5 hs5 hd5 hz5 z1 z2 z3 z4 z5 c2 d0 d1 HO hop
      have hrows : Hid ((cd = 0 → ∀ i, i < 13 + 3 * k → (!((devL k).getD i zB == F'.getD i zB)) = ((i : Int) == 11 + ((2 : Nat) : Int) * k + id)) ∧ (cd ≠ 0 → F' = devL k)) := by
        refine ⟨fun e i hi => ?_, fun e => hcase.elim (fun h => (e h.2.2.1).elim) (fun h => h.2.2)⟩
        rcases apart_rows (by decide : 2 ≤ 2) hcase (11 + ((2 : Nat) : Int) * k + id) (fun _ => rfl) i with h | h
        · rw [h, e]; rfl
        · omega
      have hcs : (0 ≤ id ∧ id < (k : Int) ∧ cd = 0) ∨ (¬ (0 ≤ id ∧ id < (k : Int)) ∧ cd ≠ 0) := hcase.elim (fun h => .inl ⟨h.1, h.2.1, h.2.2.1⟩) (fun h => .inr ⟨h.1, h.2.1⟩)
      clear hcase
      have hlast : (0 ≤ id ∧ id < (k : Int) ∧ cd = 0) ∨ (id < 0 ∧ (cd == 0) = false ∧ cd ≠ 0) ∨ (0 ≤ id ∧ (k : Int) ≤ id ∧ (cd == 0) = false ∧ cd ≠ 0) := by
        rcases hcs with h | ⟨h, hc⟩
        · exact .inl h
        · by_cases h0 : id < 0
          · exact .inr (.inl ⟨h0, by simpa using hc, hc⟩)
          · exact .inr (.inr ⟨by omega, by omega, by simpa using hc, hc⟩)
      clear hcs
      rcases hlast with ⟨p0, p1, hc0⟩ | ⟨p0, hq, hne⟩ | ⟨p0, p1, hq, hne⟩
      · have HR : Hid (∀ i, i < 13 + 3 * k → ((i : Int) = 11 + 2 * (k : Int) + id ∧ ((devL k).getD i zB == F'.getD i zB) = false) ∨ (¬ (i : Int) = 11 + 2 * (k : Int) + id ∧ ((devL k).getD i zB == F'.getD i zB) = true)) := fun i hi => by
          have h := hrows.out.1 hc0 i hi
          by_cases e : (i : Int) = 11 + 2 * (k : Int) + id
          · left; refine ⟨e, ?_⟩
            rw [show ((i : Int) == 11 + ((2 : Nat) : Int) * k + id) = true by rw [beq_iff_eq, e]; omega] at h
            simpa using h
          · right; refine ⟨e, ?_⟩
            rw [show ((i : Int) == 11 + ((2 : Nat) : Int) * k + id) = false by rw [beq_eq_false_iff_ne]; intro h2; apply e; rw [h2]; omega] at h
            simpa using h
        clear hrows
        subst hc0
        go_wp2_with (first
          | (go_at_call 26; refine (H6.out.2.2.2 _ (Below.refl _ _)).mono ?_; rintro e w7 ⟨rfl, rfl⟩)
          | fail)
        have HP := Lib.hid (And.intro p0 e3)
        clear e3 e4
        go_loopw [14] (fun s14 wr => ∃ i : Nat, i ≤ 13 + 3 * k ∧ s14 = .int .i64 i ∧ Below w7.heap.size w7 wr) (fun s14 _ => 13 + 3 * k - (intOf s14).toNat)
        case atStart => exact ⟨0, Nat.zero_le _, rfl, Below.refl _ _⟩
        case round =>
          obtain ⟨i, hi, rfl, hbr⟩ := hrel
          have HB := Lib.hid hbr
          have hsize := fun (W : World) (h : Below w7.heap.size w7 W) => asize H6.out.1 h
          by_cases hlt : i < 13 + 3 * k
          · have hlt' : (i : Int) < ((13 + 3 * k : Nat) : Int) := by omega
            have f1 := Lib.hid (fun (W : World) (h : Below w7.heap.size w7 W) => afirm (H6.out.2.1.below h) (i := i) (by rw [devL_len]; exact hlt))
            have f2 := Lib.hid (fun (W : World) (h : Below w7.heap.size w7 W) => afirm (H6.out.1.dv.below h) (i := i) (by rw [H6.out.1.fl]; exact hlt))
            have l1 : Hid (((devL k).getD i zB).length = 64) := arow H6.out.2.1
            have l2 : Hid ((F'.getD i zB).length = 64) := arow H6.out.1.dv
            have hab := HR.out i hlt
            generalize (devL k).getD i zB = ya at *
            generalize F'.getD i zB = yb at *
            have hqe := eqIn_bk ya yb l1.out l2.out
            have HQ := Lib.hid hab
            clear hab
            go_wp2_with (first
              | (go_at_call 27; refine (hsize _ HB.out).mono ?_; rintro e w8 ⟨rfl, rfl⟩)
              | fail)
            refine (f1.out _ HB.out).mono ?_
            rintro e w9 ⟨rfl, hb9⟩
            have HB9 := Lib.hid (HB.out.trans (hb9.mono HB.out.size))
            clear hb9 hbr hsize
            go_wp2_with (first
              | (refine wpList_store_new rfl _ _ _ rfl _ _ (bkC ya) rfl rfl (by rw [bkC_len, l1.out]; rfl) (sizeBk _ l1.out) (bkC_one _) ?_)
              | fail)
            have hgA := heap_alloc_last w9 (.cells (bkC ya).toArray 23) rfl
            have hBA : Below w7.heap.size w7 (w9.alloc (.cells (bkC ya).toArray 23)) := HB9.out.alloc HB9.out.size _
            generalize w9.alloc (.cells (bkC ya).toArray 23) = wa at *
            refine (f2.out _ hBA).mono ?_
            rintro e w10 ⟨rfl, hb10⟩
            have hgA' := (hb10.block _ (lt_of_block hgA)).trans hgA
            have HB10 := Lib.hid (hBA.trans (hb10.mono hBA.size))
            have rA := World.rangeAt_alloc (range_of_block hgA') (.cells (bkC yb).toArray 23)
            have rB := range_of_block (heap_alloc_last w10 (.cells (bkC yb).toArray 23) rfl)
            clear hgA hgA' hBA hb10
            rcases HQ.out with ⟨hio, hab⟩ | ⟨hio, hab⟩
            · have qi : ((i : Int) == 11 + 2 * (k : Int) + id) = true := by simpa using hio
              clear hio
              go_wp2_with (first
                | (refine wpList_store_new rfl _ _ _ rfl _ _ (bkC yb) rfl rfl (by rw [bkC_len, l2.out]; rfl) (sizeBk _ l2.out) (bkC_one _) ?_)
                | (refine wpList_load_midW (by rfl) _ _ rfl _ _ rfl _ _ rA Tryz.underlying23 rfl (sizeBk _ l1.out) ?_)
                | (refine wpList_load_midW (by rfl) _ _ rfl _ _ rfl _ _ rB Tryz.underlying23 rfl (sizeBk _ l2.out) ?_)
                | fail)
              go_roundw
              case rel => exact ⟨i + 1, by omega, by go_num, HB10.out.alloc HB10.out.size _⟩
              case measure => simp [intOf]; omega
            · have qi : ((i : Int) == 11 + 2 * (k : Int) + id) = false := by simpa using hio
              clear hio
              go_wp2_with (first
                | (refine wpList_store_new rfl _ _ _ rfl _ _ (bkC yb) rfl rfl (by rw [bkC_len, l2.out]; rfl) (sizeBk _ l2.out) (bkC_one _) ?_)
                | (refine wpList_load_midW (by rfl) _ _ rfl _ _ rfl _ _ rA Tryz.underlying23 rfl (sizeBk _ l1.out) ?_)
                | (refine wpList_load_midW (by rfl) _ _ rfl _ _ rfl _ _ rB Tryz.underlying23 rfl (sizeBk _ l2.out) ?_)
                | fail)
              go_roundw
              case rel => exact ⟨i + 1, by omega, by go_num, HB10.out.alloc HB10.out.size _⟩
              case measure => simp [intOf]; omega
          · obtain rfl : i = 13 + 3 * k := by omega
            have hlt' : ¬ ((13 + 3 * k : Nat) : Int) < ((13 + 3 * k : Nat) : Int) := by omega
            have hbw : Below w.heap.size w _ := H6.out.2.2.1.trans (HB.out.mono H6.out.2.2.1.size)
            have HW8 := Lib.hid hbw
            clear hbw hbr
            go_wp2_with (first
              | (go_at_call 27; refine (hsize _ HB.out).mono ?_; rintro e w8 ⟨rfl, rfl⟩)
              | fail)
            refine (awake17 _ (HT.out.1.below HW8.out) (HT.out.2.1.below HW8.out)).mono ?_
            rintro e w9 ⟨rfl, hb9⟩
            have HB9 := Lib.hid (HW8.out.trans (hb9.mono HW8.out.size))
            clear hb9 hsize
            go_wp2
            go_ret
            exact ⟨rfl, HB9.out⟩
      · have HR : Hid (∀ i, ((devL k).getD i zB == F'.getD i zB) = true) := fun i => by rw [hrows.out.2 hne]; simp
        clear hne hrows
        go_wp2_with (first
          | (go_at_call 26; refine (H6.out.2.2.2 _ (Below.refl _ _)).mono ?_; rintro e w7 ⟨rfl, rfl⟩)
          | fail)
        have HP := Lib.hid (And.intro p0 e3)
        clear e3 e4
        go_loopw [14] (fun s14 wr => ∃ i : Nat, i ≤ 13 + 3 * k ∧ s14 = .int .i64 i ∧ Below w7.heap.size w7 wr) (fun s14 _ => 13 + 3 * k - (intOf s14).toNat)
        case atStart => exact ⟨0, Nat.zero_le _, rfl, Below.refl _ _⟩
        case round =>
          obtain ⟨i, hi, rfl, hbr⟩ := hrel
          have HB := Lib.hid hbr
          have hsize := fun (W : World) (h : Below w7.heap.size w7 W) => asize H6.out.1 h
          by_cases hlt : i < 13 + 3 * k
          · have hlt' : (i : Int) < ((13 + 3 * k : Nat) : Int) := by omega
            have f1 := Lib.hid (fun (W : World) (h : Below w7.heap.size w7 W) => afirm (H6.out.2.1.below h) (i := i) (by rw [devL_len]; exact hlt))
            have f2 := Lib.hid (fun (W : World) (h : Below w7.heap.size w7 W) => afirm (H6.out.1.dv.below h) (i := i) (by rw [H6.out.1.fl]; exact hlt))
            have l1 : Hid (((devL k).getD i zB).length = 64) := arow H6.out.2.1
            have l2 : Hid ((F'.getD i zB).length = 64) := arow H6.out.1.dv
            have hab := HR.out i
            generalize (devL k).getD i zB = ya at *
            generalize F'.getD i zB = yb at *
            have hqe := eqIn_bk ya yb l1.out l2.out
            have HQ := Lib.hid hab
            clear hab
            go_wp2_with (first
              | (go_at_call 27; refine (hsize _ HB.out).mono ?_; rintro e w8 ⟨rfl, rfl⟩)
              | fail)
            refine (f1.out _ HB.out).mono ?_
            rintro e w9 ⟨rfl, hb9⟩
            have HB9 := Lib.hid (HB.out.trans (hb9.mono HB.out.size))
            clear hb9 hbr hsize
            go_wp2_with (first
              | (refine wpList_store_new rfl _ _ _ rfl _ _ (bkC ya) rfl rfl (by rw [bkC_len, l1.out]; rfl) (sizeBk _ l1.out) (bkC_one _) ?_)
              | fail)
            have hgA := heap_alloc_last w9 (.cells (bkC ya).toArray 23) rfl
            have hBA : Below w7.heap.size w7 (w9.alloc (.cells (bkC ya).toArray 23)) := HB9.out.alloc HB9.out.size _
            generalize w9.alloc (.cells (bkC ya).toArray 23) = wa at *
            refine (f2.out _ hBA).mono ?_
            rintro e w10 ⟨rfl, hb10⟩
            have hgA' := (hb10.block _ (lt_of_block hgA)).trans hgA
            have HB10 := Lib.hid (hBA.trans (hb10.mono hBA.size))
            have rA := World.rangeAt_alloc (range_of_block hgA') (.cells (bkC yb).toArray 23)
            have rB := range_of_block (heap_alloc_last w10 (.cells (bkC yb).toArray 23) rfl)
            clear hgA hgA' hBA hb10
            have hab := HQ.out
            go_wp2_with (first
              | (refine wpList_store_new rfl _ _ _ rfl _ _ (bkC yb) rfl rfl (by rw [bkC_len, l2.out]; rfl) (sizeBk _ l2.out) (bkC_one _) ?_)
              | (refine wpList_load_midW (by rfl) _ _ rfl _ _ rfl _ _ rA Tryz.underlying23 rfl (sizeBk _ l1.out) ?_)
              | (refine wpList_load_midW (by rfl) _ _ rfl _ _ rfl _ _ rB Tryz.underlying23 rfl (sizeBk _ l2.out) ?_)
              | fail)
            go_roundw
            case rel => exact ⟨i + 1, by omega, by go_num, HB10.out.alloc HB10.out.size _⟩
            case measure => simp [intOf]; omega
          · obtain rfl : i = 13 + 3 * k := by omega
            have hlt' : ¬ ((13 + 3 * k : Nat) : Int) < ((13 + 3 * k : Nat) : Int) := by omega
            have hbw : Below w.heap.size w _ := H6.out.2.2.1.trans (HB.out.mono H6.out.2.2.1.size)
            have HW8 := Lib.hid hbw
            clear hbw hbr
            go_wp2_with (first
              | (go_at_call 27; refine (hsize _ HB.out).mono ?_; rintro e w8 ⟨rfl, rfl⟩)
              | fail)
            refine (awake17 _ (HT.out.1.below HW8.out) (HT.out.2.1.below HW8.out)).mono ?_
            rintro e w9 ⟨rfl, hb9⟩
            have HB9 := Lib.hid (HW8.out.trans (hb9.mono HW8.out.size))
            clear hb9 hsize
            go_wp2
            go_ret
            exact ⟨rfl, HB9.out⟩
      · have HR : Hid (∀ i, ((devL k).getD i zB == F'.getD i zB) = true) := fun i => by rw [hrows.out.2 hne]; simp
        clear hne hrows
        go_wp2_with (first
          | (go_at_call 26; refine (H6.out.2.2.2 _ (Below.refl _ _)).mono ?_; rintro e w7 ⟨rfl, rfl⟩)
          | fail)
        have HP := Lib.hid (And.intro p0 e3)
        clear e3 e4
        go_loopw [14] (fun s14 wr => ∃ i : Nat, i ≤ 13 + 3 * k ∧ s14 = .int .i64 i ∧ Below w7.heap.size w7 wr) (fun s14 _ => 13 + 3 * k - (intOf s14).toNat)
        case atStart => exact ⟨0, Nat.zero_le _, rfl, Below.refl _ _⟩
        case round =>
          obtain ⟨i, hi, rfl, hbr⟩ := hrel
          have HB := Lib.hid hbr
          have hsize := fun (W : World) (h : Below w7.heap.size w7 W) => asize H6.out.1 h
          by_cases hlt : i < 13 + 3 * k
          · have hlt' : (i : Int) < ((13 + 3 * k : Nat) : Int) := by omega
            have f1 := Lib.hid (fun (W : World) (h : Below w7.heap.size w7 W) => afirm (H6.out.2.1.below h) (i := i) (by rw [devL_len]; exact hlt))
            have f2 := Lib.hid (fun (W : World) (h : Below w7.heap.size w7 W) => afirm (H6.out.1.dv.below h) (i := i) (by rw [H6.out.1.fl]; exact hlt))
            have l1 : Hid (((devL k).getD i zB).length = 64) := arow H6.out.2.1
            have l2 : Hid ((F'.getD i zB).length = 64) := arow H6.out.1.dv
            have hab := HR.out i
            generalize (devL k).getD i zB = ya at *
            generalize F'.getD i zB = yb at *
            have hqe := eqIn_bk ya yb l1.out l2.out
            have HQ := Lib.hid hab
            clear hab
            go_wp2_with (first
              | (go_at_call 27; refine (hsize _ HB.out).mono ?_; rintro e w8 ⟨rfl, rfl⟩)
              | fail)
            refine (f1.out _ HB.out).mono ?_
            rintro e w9 ⟨rfl, hb9⟩
            have HB9 := Lib.hid (HB.out.trans (hb9.mono HB.out.size))
            clear hb9 hbr hsize
            go_wp2_with (first
              | (refine wpList_store_new rfl _ _ _ rfl _ _ (bkC ya) rfl rfl (by rw [bkC_len, l1.out]; rfl) (sizeBk _ l1.out) (bkC_one _) ?_)
              | fail)
            have hgA := heap_alloc_last w9 (.cells (bkC ya).toArray 23) rfl
            have hBA : Below w7.heap.size w7 (w9.alloc (.cells (bkC ya).toArray 23)) := HB9.out.alloc HB9.out.size _
            generalize w9.alloc (.cells (bkC ya).toArray 23) = wa at *
            refine (f2.out _ hBA).mono ?_
            rintro e w10 ⟨rfl, hb10⟩
            have hgA' := (hb10.block _ (lt_of_block hgA)).trans hgA
            have HB10 := Lib.hid (hBA.trans (hb10.mono hBA.size))
            have rA := World.rangeAt_alloc (range_of_block hgA') (.cells (bkC yb).toArray 23)
            have rB := range_of_block (heap_alloc_last w10 (.cells (bkC yb).toArray 23) rfl)
            clear hgA hgA' hBA hb10
            have hab := HQ.out
            go_wp2_with (first
              | (refine wpList_store_new rfl _ _ _ rfl _ _ (bkC yb) rfl rfl (by rw [bkC_len, l2.out]; rfl) (sizeBk _ l2.out) (bkC_one _) ?_)
              | (refine wpList_load_midW (by rfl) _ _ rfl _ _ rfl _ _ rA Tryz.underlying23 rfl (sizeBk _ l1.out) ?_)
              | (refine wpList_load_midW (by rfl) _ _ rfl _ _ rfl _ _ rB Tryz.underlying23 rfl (sizeBk _ l2.out) ?_)
              | fail)
            go_roundw
            case rel => exact ⟨i + 1, by omega, by go_num, HB10.out.alloc HB10.out.size _⟩
            case measure => simp [intOf]; omega
          · obtain rfl : i = 13 + 3 * k := by omega
            have hlt' : ¬ ((13 + 3 * k : Nat) : Int) < ((13 + 3 * k : Nat) : Int) := by omega
            have hbw : Below w.heap.size w _ := H6.out.2.2.1.trans (HB.out.mono H6.out.2.2.1.size)
            have HW8 := Lib.hid hbw
            clear hbw hbr
            go_wp2_with (first
              | (go_at_call 27; refine (hsize _ HB.out).mono ?_; rintro e w8 ⟨rfl, rfl⟩)
              | fail)
            refine (awake17 _ (HT.out.1.below HW8.out) (HT.out.2.1.below HW8.out)).mono ?_
            rintro e w9 ⟨rfl, hb9⟩
            have HB9 := Lib.hid (HW8.out.trans (hb9.mono HW8.out.size))
            clear hb9 hsize
            go_wp2
            go_ret
            exact ⟨rfl, HB9.out⟩
  · have hc : sectors < 1 ∨ (1 ≤ sectors ∧ 12 < sectors) ∨ (1 ≤ sectors ∧ sectors ≤ 12 ∧ which < 0) ∨ (1 ≤ sectors ∧ sectors ≤ 12 ∧ 0 ≤ which ∧ 2 < which) := by omega
    clear hr
    go_enter Tryz.func4, Tryz.ntmps4
    rcases hc with p1 | ⟨p1, p2⟩ | ⟨p1, p2, p3⟩ | ⟨p1, p2, p3, p4⟩
    all_goals
      go_wp2_with fail
      refine (awake17 w HT.out.1 HT.out.2.1).mono ?_
      rintro e w1 ⟨rfl, hb⟩
      have HB := Lib.hid hb
      clear hb
      go_wp2
      go_ret
      exact ⟨rfl, HB.out⟩
end Go.Proofs.YtnadilfobmgebaaGreatDoor.logsApart
