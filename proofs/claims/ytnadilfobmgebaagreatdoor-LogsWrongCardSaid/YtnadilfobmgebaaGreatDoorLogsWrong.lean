/- What is no thing, or stands elsewhere, is told: for every sector's bytes, every place and every number. -/
import Derived.Test.YtnadilfobmgebaaGreatDoorG40
import Derived.Test.YtnadilfobmgebaaGreatDoorG30
import Derived.Test.YtnadilfobmgebaaGreatDoorG05
namespace Go.Proofs.YtnadilfobmgebaaGreatDoor.logsWrong
open Go Go.RowKit Go.ChangeShapes Go.WideShapes Go.ChangeAt Go.Proofs.YtnadilfobmgebaaGreatDoor
theorem wrong_cases (b : Bk) (a : Nat) (x0 x1 x2 x3 cdx y0 y1 y2 y3 cdy : Int) (h1 : kindI.ok b = true → cdx = 0 ∧ kindI.ds b = intC x0 x1 x2 x3 ∧ x0 = kindI.nm b) (h2 : kindI.ok b = false → cdx ≠ 0)
    (h3 : cdy = getCd kindI b a) (h4 : cdy = 0 → kindI.ds b = intC y0 y1 y2 y3) :
    ((b == zB) = true ∧ cdy = 14) ∨ ((b == zB) = false ∧ cdx = 0 ∧ x0 = (a : Int) ∧ cdy = 0 ∧ y0 = x0 ∧ y1 = x1 ∧ y2 = x2 ∧ y3 = x3) ∨ ((b == zB) = false ∧ cdx = 0 ∧ (x0 == (a : Int)) = false ∧ cdy = 12) ∨ ((b == zB) = false ∧ (cdx == 0) = false ∧ cdy = 12) := by
  unfold getCd at h3
  by_cases hb : b = zB
  · rw [if_pos hb] at h3; exact .inl ⟨by simpa using hb, h3⟩
  · rw [if_neg hb] at h3
    have hb' : (b == zB) = false := by simpa using hb
    right
    by_cases ho : kindI.ok b = true
    · obtain ⟨k1, k2, k3⟩ := h1 ho
      by_cases hn : kindI.nm b = (a : Int)
      · rw [if_pos ⟨ho, hn⟩] at h3
        have := h4 h3
        rw [k2] at this
        simp at this
        exact .inl ⟨hb', k1, k3.trans hn, h3, this.1.symm, this.2.1.symm, this.2.2.1.symm, this.2.2.2.symm⟩
      · rw [if_neg (fun h => hn h.2)] at h3
        exact .inr (.inl ⟨hb', k1, by simpa using fun e => hn (k3.symm.trans e), h3⟩)
    · rw [if_neg (fun h => ho h.1)] at h3
      exact .inr (.inr ⟨hb', by simpa using h2 (by simpa using ho), h3⟩)
set_option maxRecDepth 100000 in
set_option maxHeartbeats 4000000 in
theorem walk (b : Bk) (hbl : b.length = 64) (at' id : Int) (h1 : InR at') (h2 : InR id) (w : World) (nib : Nib w) (tur : Tur w) : Calls Tryz.prog 3 #[.agg (bkC b).toArray, .int .i64 at', .int .i64 id] w fun e w' => e = .returned (.bool true) ∧ Below w.heap.size w w' := by
  obtain ⟨w1, hw1⟩ : ∃ w1, w1 = w.alloc (.cells (bkC b).toArray 23) := ⟨_, rfl⟩
  have hg1 : w1.heap[w.heap.size]? = some (.cells (bkC b).toArray 23 (0, 0)) := by rw [hw1]; exact heap_alloc_last w _ rfl
  have hb1 : Below w.heap.size w w1 := by rw [hw1]; exact (Below.refl _ w).alloc (Nat.le_refl _) _
  have HO := Lib.hid (opened_ok 4 (by omega) (by omega) w1 (nib.below hb1) (tur.below hb1))
  have HT := Lib.hid (And.intro nib (And.intro tur (And.intro hg1 (And.intro hb1 hbl))))
  have HW1 := Lib.hid hw1
  unfold InR at h1 h2
  clear nib tur hg1 hb1 hw1 hbl
  by_cases hr : 0 ≤ at' ∧ at' ≤ 3 ∧ 0 ≤ id ∧ id ≤ 1099511627776
  · obtain ⟨a, rfl⟩ : ∃ a : Nat, at' = a := ⟨at'.toNat, by omega⟩
    obtain ⟨n, rfl⟩ : ∃ n : Nat, id = n := ⟨id.toNat, by omega⟩
    obtain ⟨-, p2, -, p4⟩ := hr
    clear h1 h2
    have HA : Hid (a < 4 ∧ n ≤ 1099511627776) := ⟨by omega, by omega⟩
    go_enter Tryz.func3, Tryz.ntmps3
    go_wp2_with fail
    rw [← HW1.out]
    refine HO.out.mono ?_
    rintro e w2 ⟨li, lc, lf, d, S, rfl, hL, hS, hb2⟩
    obtain ⟨w3, hw3⟩ : ∃ w3, w3 = w2.alloc (.cells #[ptr li, ptr lc, ptr lf] 28) := ⟨_, rfl⟩
    have hg3 : w3.heap[w2.heap.size]? = some (.cells #[ptr li, ptr lc, ptr lf] 28 (0, 0)) := by rw [hw3]; exact heap_alloc_last w2 _ rfl
    have hb3 : Below w2.heap.size w2 w3 := by rw [hw3]; exact (Below.refl _ w2).alloc (Nat.le_refl _) _
    have HW3 := Lib.hid hw3
    have H3 := Lib.hid (And.intro hL (And.intro hS (And.intro hb2 (And.intro hg3 hb3))))
    clear hL hS hb2 hg3 hb3 hw3
    go_wp2_with fail
    rw [← HW3.out]
    refine (small_ok _).mono ?_
    rintro e w4 ⟨rfl, hb4⟩
    clear p2 p4
    obtain ⟨L7, hL7⟩ : ∃ L, L = superC 7 9 2 8 1 2 3 := ⟨_, rfl⟩
    have i7 : Hid (L7.length = 7) := by show _ = _; rw [hL7]; rfl
    have s7 : Hid ((Tryz.prog.info? 34).map (·.size) = some L7.length) := by show _ = _; rw [i7.out]; exact infoSup
    have o7 : Hid (∀ v ∈ L7, v.oneCell' = true) := by show ∀ v ∈ L7, _; rw [hL7]; exact superC_one 7 9 2 8 1 2 3
    obtain ⟨w5, hw5⟩ : ∃ w5, w5 = w4.alloc (.cells L7.toArray 34) := ⟨_, rfl⟩
    have hb5 : Below w4.heap.size w4 w5 := by rw [hw5]; exact (Below.refl _ w4).alloc (Nat.le_refl _) _
    have hs5 : w5.heap[w4.heap.size]? = some (.cells L7.toArray 34 (0, 0)) := by rw [hw5]; exact heap_alloc_last w4 _ rfl
    have e3 : w5.cell? ⟨w4.heap.size, 3, none⟩ = some (.int .i64 8) := (cell_of_block hs5 3).trans (by rw [List.getElem?_toArray, hL7]; rfl)
    have e4 : w5.cell? ⟨w4.heap.size, 4, none⟩ = some (.int .i64 1) := (cell_of_block hs5 4).trans (by rw [List.getElem?_toArray, hL7]; rfl)
    rw [← hL7]
    obtain ⟨nib, tur, hg1, hb1, hbl⟩ := HT.out
    obtain ⟨hL, hS, hb2, hg3, hb3⟩ := H3.out
    have z1 := hb1.size
    have z2 := hb2.size
    have z3 := hb3.size
    have z4 := hb4.size
    have z5 := hb5.size
    have y1 := lt_of_block hg1
    have y3 := lt_of_block hg3
    have hB35 : Below w3.heap.size w3 w5 := hb4.trans (hb5.mono z4)
    have hB25 : Below w2.heap.size w2 w5 := hb3.trans (hB35.mono z3)
    have hB15 : Below w1.heap.size w1 w5 := hb2.trans (hB25.mono z2)
    have hB05 : Below w.heap.size w w5 := hb1.trans (hB15.mono z1)
    have rB := range_of_block ((hB15.block _ y1).trans hg1)
    have hg5 := (hB35.block _ y3).trans hg3
    have HI := Lib.hid (getint_any (nib.below hB05) b hbl)
    have H5 := Lib.hid (And.intro hL (And.intro hS (And.intro hB25 (And.intro hB05 (And.intro ((hB15.block _ y1).trans hg1) hg5)))))
    have HW5 := Lib.hid hw5
    have HZ : Hid (w.heap.size < w2.heap.size ∧ w2.heap.size < w5.heap.size) := ⟨by omega, by omega⟩
    rw [hw5] at e3 e4 rB
    have siB := Lib.hid (sizeBk b hbl)
    clear nib tur hg1 hb1 hbl hL hS hb2 hg3 hb3 z1 z2 z3 z4 z5 y1 y3 hB35 hB25 hB15 hB05 hg5 hb4 hb5 hs5 hw5 hL7 HO
    go_wp2_with (first
      | (refine wpList_store_new rfl _ _ _ rfl _ _ _ rfl rfl (by rw [i7.out]; rfl) s7.out o7.out ?_)
      | (refine wpList_load_mid rfl _ _ rfl _ _ rfl _ _ rB Tryz.underlying23 rfl siB.out ?_)
      | fail)
    rw [← HW5.out]
    refine HI.out.mono ?_
    rintro e w6 ⟨x0, x1, x2, x3, cdx, rfl, hx1, hx2, hb6⟩
    obtain ⟨w7, hw7⟩ : ∃ w7, w7 = w6.alloc (.cells #[.int .i64 x0, .int .i64 x1, .int .i64 x2, .int .i64 x3] 39) := ⟨_, rfl⟩
    have hb7 : Below w6.heap.size w6 w7 := by rw [hw7]; exact (Below.refl _ w6).alloc (Nat.le_refl _) _
    have hg7 : w7.heap[w6.heap.size]? = some (.cells #[.int .i64 x0, .int .i64 x1, .int .i64 x2, .int .i64 x3] 39 (0, 0)) := by rw [hw7]; exact heap_alloc_last w6 _ rfl
    obtain ⟨hL, hS, hB25, hB05, hgb, hgl⟩ := H5.out
    have z6 := hb6.size
    have z7 := hb7.size
    have hB57 : Below w5.heap.size w5 w7 := hb6.trans (hb7.mono z6)
    have hL7' := hL.beside (hB25.trans (hB57.mono hB25.size))
    have hgb7 := (hB57.block _ (lt_of_block hgb)).trans hgb
    have hgl7 := (hB57.block _ (lt_of_block hgl)).trans hgl
    have rB := range_of_block hgb7
    have hwrap : IntKind.i64.wrap (11 + (a : Int)) = ((11 + a : Nat) : Int) := by rw [IntWalk.i64_in _ (by have := HA.out.1; omega)]; omega
    have HWr := Lib.hid (lwrite hL7' (by simp) (11 + a) (by have := HA.out.1; omega) b HT.out.2.2.2.2)
    have H7 := Lib.hid (And.intro hS (And.intro (hB05.trans (hB57.mono hB05.size)) (And.intro hgb7 (And.intro hgl7 hg7))))
    have HX := Lib.hid (And.intro hx1 hx2)
    have HW7 := Lib.hid hw7
    have HZ7 : Hid (w.heap.size < w2.heap.size ∧ w2.heap.size < w6.heap.size ∧ w6.heap.size < w7.heap.size) := ⟨HZ.out.1, by have := HZ.out.2; omega, lt_of_block hg7⟩
    rw [hw7] at rB
    clear hL hS hB25 hB05 hgb hgl z6 z7 hB57 hL7' hgb7 hgl7 hb6 hb7 hg7 hw7 hx1 hx2 e3 e4
    go_wp2_with (first
      | (refine wpList_load_mid rfl _ _ rfl _ _ rfl _ _ rB Tryz.underlying23 rfl siB.out ?_)
      | fail)
    rw [← HW7.out]
    refine HWr.out.mono ?_
    rintro e w8 ⟨rfl, hL8, hu8⟩
    obtain ⟨hS, hB07, hgb7, hgl7, hg7⟩ := H7.out
    have hTn : ∀ j, (S j ∧ ¬ (w2.heap.size ≤ j ∧ j < w7.heap.size)) → w7.heap.size ≤ j ∨ w1.heap.size ≤ j ∧ j < w2.heap.size := fun j hj => by
      have := hS j hj.1
      by_cases h : w7.heap.size ≤ j
      · exact .inl h
      · exact .inr ⟨this, by have := hj.2; omega⟩
    have n0 : ¬ (S w.heap.size ∧ ¬ (w2.heap.size ≤ w.heap.size ∧ w.heap.size < w7.heap.size)) := fun h => by
      have := hS _ h.1
      have := HT.out.2.2.2.1.size
      have := lt_of_block HT.out.2.2.1
      omega
    have n2 : ¬ (S w2.heap.size ∧ ¬ (w2.heap.size ≤ w2.heap.size ∧ w2.heap.size < w7.heap.size)) := fun h => h.2 ⟨by omega, by have := HZ7.out; omega⟩
    have n6 : ¬ (S w6.heap.size ∧ ¬ (w2.heap.size ≤ w6.heap.size ∧ w6.heap.size < w7.heap.size)) := fun h => h.2 ⟨by have := HZ7.out; omega, by have := HZ7.out; omega⟩
    have hgb8 := (hu8.block _ (lt_of_block hgb7) n0).trans hgb7
    have hgl8 := (hu8.block _ (lt_of_block hgl7) n2).trans hgl7
    have hg8 := (hu8.block _ (lt_of_block hg7) n6).trans hg7
    have hSb : ∀ j, (S j ∧ ¬ (w2.heap.size ≤ j ∧ j < w7.heap.size)) → w.heap.size ≤ j := fun j hj => by
      have := hS j hj.1
      have := HT.out.2.2.2.1.size
      omega
    have hB08 : Below w.heap.size w w8 := below_upd hB07 hu8 (Nat.le_refl _) hSb
    have c0 : w8.cell? ⟨w2.heap.size, 0, none⟩ = some (ptr li) := cell_of_block hgl8 0
    have HG := Lib.hid (lget17 hL8 HA.out.1 (curB_own (O := []) (s := 11 + a) (y := b) (by rw [hL8.fl]; have := HA.out.1; omega)))
    obtain ⟨S7, hS7⟩ : ∃ S7 : Nat → Prop, S7 = fun j => S j ∧ ¬ (w2.heap.size ≤ j ∧ j < w7.heap.size) := ⟨_, rfl⟩
    rw [← hS7] at HG
    have H8 : Hid ((∀ j, S7 j → w.heap.size ≤ j) ∧ ¬ S7 w.heap.size ∧ ¬ S7 w2.heap.size ∧ ¬ S7 w6.heap.size ∧ Below w.heap.size w w8 ∧ w8.heap[w.heap.size]? = some (.cells (bkC b).toArray 23 (0, 0)) ∧ w8.heap[w2.heap.size]? = some (.cells #[ptr li, ptr lc, ptr lf] 28 (0, 0)) ∧ w8.heap[w6.heap.size]? = some (.cells #[.int .i64 x0, .int .i64 x1, .int .i64 x2, .int .i64 x3] 39 (0, 0))) := by
      show _ ∧ _
      rw [hS7]
      exact ⟨hSb, n0, n2, n6, hB08, hgb8, hgl8, hg8⟩
    clear hS7 hL8 hu8 hS hB07 hgb7 hgl7 hg7 hTn n0 n2 n6 hgb8 hgl8 hg8 hSb hB08 hwrap rB
    go_wp2_with fail
    refine HG.out.mono ?_
    rintro e w9 ⟨y0, y1, y2, y3, cdy, rfl, hy1, hy2, hy3, hL9, hu9⟩
    obtain ⟨hSb, n0, n2, n6, hB08, hgb8, hgl8, hg8⟩ := H8.out
    have hcs := wrong_cases b a x0 x1 x2 x3 cdx y0 y1 y2 y3 cdy HX.out.1 HX.out.2 hy1 hy2
    obtain ⟨w10, hw10⟩ : ∃ w10, w10 = w9.alloc (.cells #[.int .i64 y0, .int .i64 y1, .int .i64 y2, .int .i64 y3] 39) := ⟨_, rfl⟩
    have hb10 : Below w9.heap.size w9 w10 := by rw [hw10]; exact (Below.refl _ w9).alloc (Nat.le_refl _) _
    have hg10 : w10.heap[w9.heap.size]? = some (.cells #[.int .i64 y0, .int .i64 y1, .int .i64 y2, .int .i64 y3] 39 (0, 0)) := by rw [hw10]; exact heap_alloc_last w9 _ rfl
    have hgb10 := (hb10.block _ (Nat.lt_of_lt_of_le (lt_of_block hgb8) hu9.size)).trans ((hu9.block _ (lt_of_block hgb8) n0).trans hgb8)
    have hgl10 := (hb10.block _ (Nat.lt_of_lt_of_le (lt_of_block hgl8) hu9.size)).trans ((hu9.block _ (lt_of_block hgl8) n2).trans hgl8)
    have hgx10 := (hb10.block _ (Nat.lt_of_lt_of_le (lt_of_block hg8) hu9.size)).trans ((hu9.block _ (lt_of_block hg8) n6).trans hg8)
    have hB010 : Below w.heap.size w w10 := (below_upd hB08 hu9 (Nat.le_refl _) hSb).trans (hb10.mono ((below_upd hB08 hu9 (Nat.le_refl _) hSb).size))
    have hL10 := hL9.beside hb10
    have HC := Lib.hid (check_ok hL10)
    have HC1 := Lib.hid (check_one (k := 4) (O := [(11 + a, b)]) (y := b) (by omega) HA.out.1 (fun t ht => curB_else (O := []) (fun e => ht e.symm)) (curB_own (O := []) (s := 11 + a) (y := b) (by rw [devL_len]; have := HA.out.1; omega)))
    have HY := Lib.hid hy1
    have rB := range_of_block hgb10
    have rL := range_of_block (cs := [ptr li, ptr lc, ptr lf]) hgl10
    have rX := range_of_block (cs := [.int .i64 x0, .int .i64 x1, .int .i64 x2, .int .i64 x3]) hgx10
    have xc0 : w10.cell? ⟨w6.heap.size, 0, none⟩ = some (.int .i64 x0) := cell_of_block hgx10 0
    have xc1 : w10.cell? ⟨w6.heap.size, 1, none⟩ = some (.int .i64 x1) := cell_of_block hgx10 1
    have xc2 : w10.cell? ⟨w6.heap.size, 2, none⟩ = some (.int .i64 x2) := cell_of_block hgx10 2
    have xc3 : w10.cell? ⟨w6.heap.size, 3, none⟩ = some (.int .i64 x3) := cell_of_block hgx10 3
    have lc0 : w10.cell? ⟨w2.heap.size, 0, none⟩ = some (ptr li) := cell_of_block hgl10 0
    have lc1 : w10.cell? ⟨w2.heap.size, 1, none⟩ = some (ptr lc) := cell_of_block hgl10 1
    have lc2 : w10.cell? ⟨w2.heap.size, 2, none⟩ = some (ptr lf) := cell_of_block hgl10 2
    obtain ⟨S9, hS9⟩ : ∃ S9 : Nat → Prop, S9 = fun j => S7 j ∧ ¬ (w9.heap.size ≤ j ∧ j < w10.heap.size) := ⟨_, rfl⟩
    rw [← hS9] at HC
    have hSb9 : ∀ j, S9 j → w.heap.size ≤ j := fun j hj => by rw [hS9] at hj; exact hSb j hj.1
    have n29 : ¬ S9 w2.heap.size := fun hj => by rw [hS9] at hj; exact n2 hj.1
    have H10 := Lib.hid (And.intro hSb9 (And.intro n29 (And.intro hB010 hgl10)))
    have hq0 : ∀ W, (Op.equalIn 10000 23 (.agg (bkC b).toArray) (.agg #[.int .u8 0, .int .u8 0, .int .u8 0, .int .u8 0, .int .u8 0, .int .u8 0, .int .u8 0, .int .u8 0, .int .u8 0, .int .u8 0, .int .u8 0, .int .u8 0, .int .u8 0, .int .u8 0, .int .u8 0, .int .u8 0, .int .u8 0, .int .u8 0, .int .u8 0, .int .u8 0, .int .u8 0, .int .u8 0, .int .u8 0, .int .u8 0, .int .u8 0, .int .u8 0, .int .u8 0, .int .u8 0, .int .u8 0, .int .u8 0, .int .u8 0, .int .u8 0, .int .u8 0, .int .u8 0, .int .u8 0, .int .u8 0, .int .u8 0, .int .u8 0, .int .u8 0, .int .u8 0, .int .u8 0, .int .u8 0, .int .u8 0, .int .u8 0, .int .u8 0, .int .u8 0, .int .u8 0, .int .u8 0, .int .u8 0, .int .u8 0, .int .u8 0, .int .u8 0, .int .u8 0, .int .u8 0, .int .u8 0, .int .u8 0, .int .u8 0, .int .u8 0, .int .u8 0, .int .u8 0, .int .u8 0, .int .u8 0, .int .u8 0, .int .u8 0])).run Tryz.prog W = .ok (b == zB) W := eqIn_bk b zB HT.out.2.2.2.2 zB_len
    have HW10 := Lib.hid hw10
    clear hS9 hSb9 n29 hy1 hy2 hy3 hSb n0 n2 n6 hB08 hgb8 hgl8 hg8 hL9 hu9 hb10 hgb10 hgl10 hgx10 hg10 hB010 hL10 c0
    rw [HW10.out] at rB xc0 xc1 xc2 xc3 lc0 lc1 lc2
    clear rX rL
    have rne := run_neq_intent
    have req := run_eq_intent
    generalize hqb : (b == zB) = qb at hq0 hcs
    clear hqb
    rcases hcs with ⟨rfl, rfl⟩ | ⟨rfl, rfl, rfl, rfl, rfl, rfl, rfl, rfl⟩ | ⟨rfl, rfl, hxa, rfl⟩ | ⟨rfl, hcx, rfl⟩
    all_goals
      go_wp2_with (first
        | (refine wpList_load_mid rfl _ _ rfl _ _ rfl _ _ rB Tryz.underlying23 rfl siB.out ?_)
        | fail)
      rw [← HW10.out]
      refine HC.out.mono ?_
      rintro e w11 ⟨cd3, rfl, hc3, hL11, hu11⟩
      have hc4 : cd3 = 0 ↔ _ := hc3.trans HC1.out
      rw [← HY.out] at hc4
      simp at hc4
      first
        | subst hc4
        | (have q3 : (cd3 == 0) = false := by simpa using hc4
           clear hc4)
      have hB011 : Below w.heap.size w w11 := below_upd H10.out.2.2.1 hu11 (Nat.le_refl _) H10.out.1
      have hg11 := (hu11.block _ (lt_of_block H10.out.2.2.2) H10.out.2.1).trans H10.out.2.2.2
      have H11 := Lib.hid (And.intro hL11 (And.intro hB011 hg11))
      clear rB xc0 xc1 xc2 xc3 lc0 lc1 lc2 hc3 hL11 hu11 hB011 hg11 hq0 rne req
      try clear hxa
      try clear hcx
      go_wp2_with fail
      refine (thing_ok (n : Int) 3 _).mono ?_
      rintro e w12 ⟨rfl, hu12⟩
      have hN12 := (H11.out.1.nib.keep hu12 (fun h => h))
      have HPu := Lib.hid (PutI_any hN12 (n : Int) (n : Int) 3 1)
      have H12 := Lib.hid hu12
      clear hN12 hu12
      go_wp2_with fail
      refine HPu.out.mono ?_
      rintro e w13 ⟨he13, hb13⟩
      obtain ⟨c, hcB⟩ : ∃ c, c = thB n 3 := ⟨_, rfl⟩
      have hmay : mayI [(n : Int), (n : Int), 3, 1] = true := thMay (x := 3) HA.out.2 (by omega)
      have hcl : c.length = 64 := by rw [hcB]; exact thB_len HA.out.2 (by omega)
      obtain rfl : e = .returned (.tuple #[.agg (bkC c).toArray, .int .i64 0]) := by
        rcases he13 with ⟨-, he⟩ | ⟨hf, -⟩
        · rw [he, hcB]; rfl
        · rw [hmay] at hf; cases hf
      obtain ⟨w14, hw14⟩ : ∃ w14, w14 = w13.alloc (.cells (bkC c).toArray 23) := ⟨_, rfl⟩
      have hb14 : Below w13.heap.size w13 w14 := by rw [hw14]; exact (Below.refl _ w13).alloc (Nat.le_refl _) _
      have hg14 : w14.heap[w13.heap.size]? = some (.cells (bkC c).toArray 23 (0, 0)) := by rw [hw14]; exact heap_alloc_last w13 _ rfl
      have hB114 : Below w11.heap.size w11 w14 := (Upd.below H12.out).trans ((hb13.trans (hb14.mono hb13.size)).mono H12.out.size)
      obtain ⟨hL11, hB011, hg11⟩ := H11.out
      have hL14 := hL11.beside hB114
      have hgl14 := (hB114.block _ (lt_of_block hg11)).trans hg11
      have hB014 := hB011.trans (hB114.mono hB011.size)
      have hwrap : IntKind.i64.wrap (11 + (a : Int)) = ((11 + a : Nat) : Int) := by rw [IntWalk.i64_in _ (by have := HA.out.1; omega)]; omega
      have HW2 := Lib.hid (lwrite hL14 (by simp) (11 + a) (by have := HA.out.1; omega) c hcl)
      have rC := range_of_block hg14
      have siC := Lib.hid (sizeBk c hcl)
      have oneC := Lib.hid (bkC_one c)
      have lnC : Hid ((bkC c).length = 64) := by show _ = _; rw [bkC_len, hcl]
      have n2b : ¬ S9 w2.heap.size := H10.out.2.1
      have H14 := Lib.hid (And.intro hB014 (And.intro hgl14 (And.intro hcB (And.intro n2b (lt_of_block hg11)))))
      have HW14 := Lib.hid hw14
      rw [hw14] at rC
      clear hL11 hB011 hg11 hL14 hgl14 hB014 hB114 hg14 hb14 hw14 hcl hcB hb13 he13 n2b hmay
      go_wp2_with (first
        | (refine wpList_store_new rfl _ _ _ rfl _ _ _ rfl rfl (by rw [lnC.out]; rfl) siC.out oneC.out ?_)
        | (refine wpList_load_mid rfl _ _ rfl _ _ rfl _ _ rC Tryz.underlying23 rfl siC.out ?_)
        | fail)
      rw [← HW14.out]
      refine HW2.out.mono ?_
      rintro e w15 ⟨rfl, hL15, hu15⟩
      obtain ⟨hB014, hgl14, hcB, n2b, hl2⟩ := H14.out
      have hgl15 := (hu15.block _ (lt_of_block hgl14) (fun h => n2b h.1)).trans hgl14
      have hSb : ∀ j, (S9 j ∧ ¬ (w11.heap.size ≤ j ∧ j < w14.heap.size)) → w.heap.size ≤ j := fun j hj => H10.out.1 j hj.1
      have hB015 : Below w.heap.size w w15 := below_upd hB014 hu15 (Nat.le_refl _) hSb
      have c0 : w15.cell? ⟨w2.heap.size, 0, none⟩ = some (ptr li) := cell_of_block hgl15 0
      have HG2 := Lib.hid (lget17 hL15 HA.out.1 (curB_own (O := [(11 + a, b)]) (s := 11 + a) (y := c) (by rw [hL15.fl]; have := HA.out.1; omega)))
      have H15 := Lib.hid (And.intro hB015 hSb)
      clear hL15 hu15 hB014 hgl14 hcB n2b hl2 hgl15 hSb hB015 hwrap rC
      go_wp2_with fail
      refine HG2.out.mono ?_
      rintro e w16 ⟨v0, v1, v2, v3, cd4, rfl, hv1, hv2, hv3, hL16, hu16⟩
      have hB016 : Below w.heap.size w w16 := below_upd H15.out.1 hu16 (Nat.le_refl _) H15.out.2
      obtain ⟨W16, hW16⟩ : ∃ W, W = w16.alloc (.cells #[.int .i64 v0, .int .i64 v1, .int .i64 v2, .int .i64 v3] 39) := ⟨_, rfl⟩
      have hB17 : Below w.heap.size w W16 := by rw [hW16]; exact hB016.alloc hB016.size _
      have HAW := Lib.hid (awake17 W16 (HT.out.1.below hB17) (HT.out.2.1.below hB17))
      have H16 := Lib.hid hB17
      have hgc : getCd kindI c a = if n = a then 0 else 12 := by
        rw [H14.out.2.2.1]
        unfold getCd
        obtain ⟨g1, g2⟩ := thB_get (id := n) (x := 3) HA.out.2 (by omega)
        have hn : kindI.nm (thB n 3) = (n : Int) := by show (((numsI (thB n 3)).getD 0 0 : Nat) : Int) = _; rw [g2]; rfl
        rw [if_neg (thB_ne HA.out.2 (by omega)), hn]
        by_cases e : n = a
        · rw [if_pos ⟨g1, by rw [e]⟩, if_pos e]
        · rw [if_neg (fun h => e (by have := h.2; omega)), if_neg e]
      rw [hgc] at hv1
      have hds : kindI.ds c = intC n n 3 1 := by
        rw [H14.out.2.2.1]
        show ints (natsI (numsI (thB n 3))) = _
        rw [(thB_get (id := n) (x := 3) HA.out.2 (by omega)).2]; rfl
      rw [hds] at hv2
      have HW16 := Lib.hid hW16
      clear hgc hds hL16 hu16 hB016 hB17 hW16
      by_cases hna : n = a
      · rw [if_pos hna] at hv1
        subst hv1
        have hv := hv2 rfl
        simp at hv
        obtain ⟨rfl, rfl, rfl, rfl⟩ := hv
        subst hna
        clear hv2 hv3 c0
        have req := run_eq_intent
        have rV : W16.rangeAt w16.heap.size 0 [.int .i64 (n : Int), .int .i64 (n : Int), .int .i64 3, .int .i64 1] := by rw [HW16.out]; exact range_of_block (heap_alloc_last w16 _ rfl)
        go_upto_region 23 with fail
        rw [← HW16.out]
        refine wp_region_held_drew (S := fun W => W.rangeAt w16.heap.size 0 [.int .i64 (n : Int), .int .i64 (n : Int), .int .i64 3, .int .i64 1]) (by kernel_rfl) (by rw [World.rangeAt_drew]; exact rV) (fun hHeld => ?_)
        refine wpAnyH_take (i := 0) (v := ?_) rfl (by kernel_rfl) (by kernel_rfl) (by kernel_rfl) (fun _ _ _ h => h) (Or.inl ⟨by rfl, ?_⟩) hHeld ?_
        rotate_left
        · intro W hSw; (try dsimp only at hSw); (try go_split_ands); go_simp; (try with_reducible rfl)
        simp only [List.getElem_toArray, List.getElem_cons_zero, Act.put, List.setIfInBounds_toArray, List.set_cons_zero, List.set_cons_succ]
        refine wpAnyH_take (i := 1) (v := ?_) rfl (by kernel_rfl) (by kernel_rfl) (by kernel_rfl) (fun _ _ _ h => h) (Or.inl ⟨by rfl, ?_⟩) hHeld ?_
        rotate_left
        · intro W hSw; (try dsimp only at hSw); (try go_split_ands); go_simp; (try with_reducible rfl)
        simp only [List.getElem_toArray, List.getElem_cons_succ, List.getElem_cons_zero, Act.put, List.setIfInBounds_toArray, List.set_cons_zero, List.set_cons_succ]
        refine wpAnyH_take (i := 2) (v := ?_) rfl (by kernel_rfl) (by kernel_rfl) (by kernel_rfl) (fun _ _ _ h => h) (Or.inl ⟨by rfl, ?_⟩) hHeld ?_
        rotate_left
        · intro W hSw; (try dsimp only at hSw); (try go_split_ands); go_simp; (try with_reducible rfl)
        simp only [List.getElem_toArray, List.getElem_cons_succ, List.getElem_cons_zero, Act.put, List.setIfInBounds_toArray, List.set_cons_zero, List.set_cons_succ]
        refine wpAnyH_take (i := 3) (v := ?_) rfl (by kernel_rfl) (by kernel_rfl) (by kernel_rfl) (fun _ _ _ h => h) (Or.inl ⟨by rfl, ?_⟩) hHeld ?_
        rotate_left
        · intro W hSw; (try dsimp only at hSw); (try go_split_ands); go_simp; (try with_reducible rfl)
        simp only [List.getElem_toArray, List.getElem_cons_succ, List.getElem_cons_zero, Act.put, List.setIfInBounds_toArray, List.set_cons_zero, List.set_cons_succ]
        refine wpAnyH_take (i := 4) (v := ?_) rfl (by kernel_rfl) (by kernel_rfl) (by kernel_rfl) (fun _ _ _ h => h) (Or.inl ⟨by rfl, ?_⟩) hHeld ?_
        rotate_left
        · intro W hSw; (try dsimp only at hSw); (try go_split_ands); go_simp; (try with_reducible rfl)
        simp only [List.getElem_toArray, List.getElem_cons_succ, List.getElem_cons_zero, Act.put, List.setIfInBounds_toArray, List.set_cons_zero, List.set_cons_succ]
        refine wpAnyH_take (i := 5) (v := ?_) rfl (by kernel_rfl) (by kernel_rfl) (by kernel_rfl) (fun _ _ _ h => h) (Or.inl ⟨by rfl, ?_⟩) hHeld ?_
        rotate_left
        · intro W hSw; (try dsimp only at hSw); (try go_split_ands); go_simp; (try with_reducible rfl)
        simp only [List.getElem_toArray, List.getElem_cons_succ, List.getElem_cons_zero, Act.put, List.setIfInBounds_toArray, List.set_cons_zero, List.set_cons_succ]
        refine wpAnyH_take (i := 6) (v := ?_) rfl (by kernel_rfl) (by kernel_rfl) (by kernel_rfl) (fun _ _ _ h => h) (Or.inl ⟨by rfl, ?_⟩) hHeld ?_
        rotate_left
        · intro W hSw; (try dsimp only at hSw); (try go_split_ands); go_simp; (try with_reducible rfl)
        simp only [List.getElem_toArray, List.getElem_cons_succ, List.getElem_cons_zero, Act.put, List.setIfInBounds_toArray, List.set_cons_zero, List.set_cons_succ]
        refine' wpAnyH_take (i := 7) rfl (by kernel_rfl) (by kernel_rfl) (by kernel_rfl) (fun _ _ _ h => h) (yieldsIf_load_mid (by rfl) _ _ rfl _ _ rfl _ _ (fun w h => h) Tryz.underlying39 rfl infoIn) hHeld _
        simp only [List.getElem_toArray, List.getElem_cons_succ, List.getElem_cons_zero, Act.put, List.setIfInBounds_toArray, List.set_cons_zero, List.set_cons_succ]
        refine wpAnyH_take (i := 8) (v := ?_) rfl (by kernel_rfl) (by kernel_rfl) (by kernel_rfl) (fun _ _ _ h => h) (Or.inl ⟨by rfl, ?_⟩) hHeld ?_
        rotate_left
        · intro W hSw; (try dsimp only at hSw); (try go_split_ands); go_simp; (try with_reducible rfl)
        simp only [List.getElem_toArray, List.getElem_cons_succ, List.getElem_cons_zero, Act.put, List.setIfInBounds_toArray, List.set_cons_zero, List.set_cons_succ]
        refine wpAnyH_ready (rs := [9]) (by kernel_rfl) (by simp) ?_
        refine AllReadyH.cons rfl (fun K hK => ?_) AllReadyH.nil
        go_simp
        refine (thing_ok (n : Int) 3 _).mono ?_
        rintro e w17 ⟨rfl, hu17⟩
        refine hK.out _ _ (hu17.range hHeld (fun h => h)) (fun hHeld2 => ?_)
        clear hK K
        refine wpAnyH_take (i := 10) (v := ?_) rfl (by kernel_rfl) (by kernel_rfl) (by kernel_rfl) (fun _ _ _ h => h) (Or.inl ⟨by rfl, ?_⟩) hHeld2 ?_
        rotate_left
        · intro W hSw; (try dsimp only at hSw); (try go_split_ands); go_simp; (try with_reducible rfl)
        simp only [List.getElem_toArray, List.getElem_cons_succ, List.getElem_cons_zero, Act.put, List.setIfInBounds_toArray, List.set_cons_zero, List.set_cons_succ]
        refine wpAnyH_take (i := 11) (v := ?_) rfl (by kernel_rfl) (by kernel_rfl) (by kernel_rfl) (fun _ _ _ h => h) (Or.inl ⟨by rfl, ?_⟩) hHeld2 ?_
        rotate_left
        · intro W hSw; (try dsimp only at hSw); (try go_split_ands); go_simp; (try with_reducible rfl)
        simp only [List.getElem_toArray, List.getElem_cons_succ, List.getElem_cons_zero, Act.put, List.setIfInBounds_toArray, List.set_cons_zero, List.set_cons_succ]
        refine wpAnyH_take (i := 12) (v := ?_) rfl (by kernel_rfl) (by kernel_rfl) (by kernel_rfl) (fun _ _ _ h => h) (Or.inl ⟨by rfl, ?_⟩) hHeld2 ?_
        rotate_left
        · intro W hSw; (try dsimp only at hSw); (try go_split_ands); go_simp; (try with_reducible rfl)
        simp only [List.getElem_toArray, List.getElem_cons_succ, List.getElem_cons_zero, Act.put, List.setIfInBounds_toArray, List.set_cons_zero, List.set_cons_succ]
        have hB17 : Below w.heap.size w w17 := H16.out.trans ((bundrew' (Upd.below hu17)).mono H16.out.size)
        have HAW2 := Lib.hid (awake17 w17 (HT.out.1.below hB17) (HT.out.2.1.below hB17))
        have HB17 := Lib.hid hB17
        clear hB17
        refine wpAnyH_ready (rs := [13]) (by kernel_rfl) (by simp) ?_
        refine AllReadyH.cons rfl (fun K hK => ?_) AllReadyH.nil
        go_simp
        refine HAW2.out.mono ?_
        rintro e w18 ⟨rfl, hb18⟩
        have HE := Lib.hid (HB17.out.trans (hb18.mono HB17.out.size))
        refine hK.out _ _ ((Upd.of_below (S := fun _ => False) hb18).range hHeld2 (fun h => h)) (fun hHeld3 => ?_)
        clear hK K
        clear hb18
        refine wpAnyH_take (i := 14) (v := ?_) rfl (by kernel_rfl) (by kernel_rfl) (by kernel_rfl) (fun _ _ _ h => h) (Or.inl ⟨by rfl, ?_⟩) hHeld3 ?_
        rotate_left
        · intro W hSw; (try dsimp only at hSw); (try go_split_ands); go_simp; (try with_reducible rfl)
        simp only [List.getElem_toArray, List.getElem_cons_succ, List.getElem_cons_zero, Act.put, List.setIfInBounds_toArray, List.set_cons_zero, List.set_cons_succ]
        refine wpAnyH_ready (rs := [15]) (by kernel_rfl) (by simp) ?_
        refine AllReadyH.cons rfl (fun K hK => ?_) AllReadyH.nil
        go_simp
        refine hK.out _ _ (hHeld3) (fun _ => ?_)
        clear hK K
        refine wpAnyH_done (by kernel_rfl) ?_ _
        clear hHeld hHeld2 hHeld3 req rV hu17
        go_wp2
        go_ret
        exact ⟨rfl, HE.out⟩
      · rw [if_neg hna] at hv1
        subst hv1
        obtain ⟨rfl, rfl, rfl, rfl⟩ := hv3 (by decide)
        have hq : ((n : Int) != (a : Int)) = true := by simp; omega
        have hq2 : ((n : Int) == (a : Int)) = false := by simp; omega
        have req := run_eq_intent
        clear hv2 hv3 c0 hna
        go_wp2_with fail
        rw [← HW16.out]
        refine HAW.out.mono ?_
        rintro e w17 ⟨rfl, hb17⟩
        have HE := Lib.hid (H16.out.trans (hb17.mono H16.out.size))
        clear hb17 req
        go_wp2
        go_ret
        exact ⟨rfl, HE.out⟩
  · have hc : at' < 0 ∨ (0 ≤ at' ∧ 3 < at') ∨ (0 ≤ at' ∧ at' ≤ 3 ∧ id < 0) ∨ (0 ≤ at' ∧ at' ≤ 3 ∧ 0 ≤ id ∧ 1099511627776 < id) := by omega
    clear hr
    go_enter Tryz.func3, Tryz.ntmps3
    go_wp2_with fail
    rw [← HW1.out]
    refine HO.out.mono ?_
    rintro e w2 ⟨li, lc, lf, d, S, rfl, hL, hS, hb2⟩
    have hB : Below w.heap.size w (w2.alloc (.cells #[ptr li, ptr lc, ptr lf] 28)) := (HT.out.2.2.2.1.trans (hb2.mono HT.out.2.2.2.1.size)).alloc (HT.out.2.2.2.1.trans (hb2.mono HT.out.2.2.2.1.size)).size _
    have HB := Lib.hid hB
    have HA := Lib.hid (awake17 _ (HT.out.1.below hB) (HT.out.2.1.below hB))
    clear hL hS hb2 hB HO
    rcases hc with p1 | ⟨p1, p2⟩ | ⟨p1, p2, p3⟩ | ⟨p1, p2, p3, p4⟩
    all_goals
      go_wp2_with fail
      refine HA.out.mono ?_
      rintro e w3 ⟨rfl, hb3⟩
      have HB3 := Lib.hid (HB.out.trans (hb3.mono HB.out.size))
      clear hb3
      go_wp2
      go_ret
      exact ⟨rfl, HB3.out⟩
end Go.Proofs.YtnadilfobmgebaaGreatDoor.logsWrong
