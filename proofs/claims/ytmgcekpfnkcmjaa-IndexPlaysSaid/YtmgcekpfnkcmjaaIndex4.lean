/- The index: At, Drop. -/
import Derived.Test.YtmgcekpfnkcmjaaIndex3
namespace Go.Proofs.Ytmgcekpfnkcmjaa
open Go Go.RowKit

/-- What At answers. -/
def atC (ps : List (Int × Bool)) (slots : Nat) (s : Int) : Int := if s < 0 ∨ (slots : Int) ≤ s then 10 else if atOf ps s = none then 14 else 0
def atV (ps : List (Int × Bool)) (slots : Nat) (s : Int) : Int := if s < 0 ∨ (slots : Int) ≤ s then 0 else (((atOf ps s).getD 0 : Nat) : Int)

theorem at_nil (s : Int) (w : World) : Calls Try.prog 23 #[.pointer none, .int .i64 s] w fun e w' => e = .returned (.tuple #[.int .i64 0, .int .i64 2]) ∧ w' = w := by
  go_enter Try.func23, Try.ntmps23
  go_wp2
  go_ret2
  exact ⟨rfl, rfl⟩

theorem at_any {w : World} {b mb N : Nat} {v : Value} {ps : List (Int × Bool)} {slots : Nat} (h : IndexAt w b v mb N ps slots) (s : Int) :
    Calls Try.prog 23 #[.pointer (some ⟨b, 0, none⟩), .int .i64 s] w fun e w' => e = .returned (.tuple #[.int .i64 (atV ps slots s), .int .i64 (atC ps slots s)]) ∧ w' = w := by
  have hsl := h.sl1
  have g1 := cell_of_block h.str 1
  have g2 := cell_of_block h.str 2
  simp at g1 g2
  by_cases ho : s < 0 ∨ (slots : Int) ≤ s
  · have e1 : atV ps slots s = 0 := by simp only [atV, if_pos ho]
    have e2 : atC ps slots s = 10 := by simp only [atC, if_pos ho]
    rw [e1, e2]
    clear e1 e2
    rcases (by omega : s < 0 ∨ (¬ s < 0 ∧ (slots : Int) ≤ s)) with h0 | ⟨h0, h1⟩
    all_goals
      clear ho h
      go_enter Try.func23, Try.ntmps23
      go_wp2
      go_ret2
      exact ⟨rfl, rfl⟩
  · have hl := h.map.look (x := s) (by omega) (by omega)
    have h0 : ¬ s < 0 := by omega
    have h1 : ¬ (slots : Int) ≤ s := by omega
    cases ha : atOf ps s with
    | none =>
      have e1 : atV ps slots s = 0 := by simp only [atV, if_neg ho, ha]; rfl
      have e2 : atC ps slots s = 14 := by simp only [atC, if_neg ho, ha, if_true]
      rw [e1, e2]
      rw [ha] at hl
      simp only [Option.getD_none, Option.isSome_none] at hl
      clear e1 e2 h ho ha
      go_enter Try.func23, Try.ntmps23
      go_wp2
      go_ret2
      exact ⟨rfl, rfl⟩
    | some k =>
      have e1 : atV ps slots s = k := by simp only [atV, if_neg ho, ha]; rfl
      have e2 : atC ps slots s = 0 := by simp [atC, if_neg ho, ha]
      rw [e1, e2]
      rw [ha] at hl
      simp only [Option.getD_some, Option.isSome_some] at hl
      clear e1 e2 h ho ha
      go_enter Try.func23, Try.ntmps23
      go_wp2
      go_ret2
      exact ⟨rfl, rfl⟩

set_option maxRecDepth 100000 in
set_option maxHeartbeats 1000000 in
theorem drop_bad {w : World} {b mb N : Nat} {v : Value} {ps : List (Int × Bool)} {slots : Nat} (h : IndexAt w b v mb N ps slots) (k : Int) (hc : getC ps k ≠ 0) :
    Calls Try.prog 27 #[.pointer (some ⟨b, 0, none⟩), .int .i64 k] w fun e w' => e = .returned (.tuple #[placeV 0 false, .int .i64 (getC ps k)]) ∧ Below w.heap.size w w' := by
  have H := Lib.hid (h.keep ((Upd.refl (fun _ => False) w).alloc (.cells #[.int .i64 0, .bool false] 36)) (fun h => h) (fun _ _ h => h))
  obtain ⟨c, hcc⟩ : ∃ c, c = getC ps k := ⟨_, rfl⟩
  obtain ⟨z, hz⟩ : ∃ z, z = getV ps k := ⟨_, rfl⟩
  have HG := get_any H.out k
  rw [← hcc, ← hz] at HG
  have HG' := Lib.hid HG
  rw [← hcc] at hc
  rw [← hcc]
  have hc' : (c == 0) = false := by simpa using hc
  clear hcc hz h H hc HG
  go_enter Try.func27, Try.ntmps27
  go_wp2_with fail
  refine HG'.out.mono ?_
  rintro e w1 ⟨rfl, hb1⟩
  have hz1 := hb1.size
  simp at hz1
  have hB := below_upd ((Below.refl _ w).alloc (Nat.le_refl _) _) (Upd.of_below (S := fun _ => False) hb1) (Nat.le_refl _) (fun _ h => h.elim)
  have hrx : (w1.alloc (.cells #[.int .i64 z.1, .bool z.2] 36)).heap[w.heap.size]? = some (.cells #[.int .i64 0, .bool false] 36) :=
    (((Upd.of_below (S := fun _ => False) hb1).alloc _).block _ (by simp) (fun h => h)).trans (heap_alloc_last w _ rfl)
  obtain ⟨r0, r1, f0, f1⟩ := res_none _ _ hrx
  have Y := Lib.hid (res_same _ _ hrx)
  clear hrx HG'
  go_wp2
  refine bodyPost_ret (v := .tuple #[placeV 0 false, .int .i64 c]) ?_ rfl ⟨rfl, res_below (hB.alloc (by omega) _) _ (by omega) _ _⟩
  simp [results, Try.results27, go_sem, Y.out.1, Y.out.2]

set_option maxRecDepth 100000 in
set_option maxHeartbeats 1000000 in
theorem drop_ok {w : World} {b mb N : Nat} {v : Value} {ps : List (Int × Bool)} {slots : Nat} (h : IndexAt w b v mb N ps slots) (n : Nat) (hn : n < ps.length) (h0 : 0 ≤ ps[n].1) :
    Calls Try.prog 27 #[.pointer (some ⟨b, 0, none⟩), .int .i64 n] w fun e w' => e = .returned (.tuple #[placeV ps[n].1 ps[n].2, .int .i64 0]) ∧
      IndexAt w' b v mb N (ps.set n (-1, false)) slots ∧ Upd (ixS v mb) w w' := by
  have hgood := h.good
  have hr := hgood.each n hn
  have hsl := h.sl1
  have hle := h.le
  have hw : Upd (fun _ => False) w (w.alloc (.cells #[.int .i64 0, .bool false] 36)) := (Upd.refl (fun _ => False) w).alloc (.cells #[.int .i64 0, .bool false] 36)
  have H := Lib.hid h
  have HG := Lib.hid (get_some (h.keep hw (fun h => h) (fun _ _ h => h)) n hn (by omega))
  clear h
  go_enter Try.func27, Try.ntmps27
  go_wp2_with fail
  refine HG.out.mono ?_
  rintro e w1 ⟨rfl, hb1⟩
  have hz1 := hb1.size
  simp at hz1
  clear HG
  have hu1 : Upd (fun _ => False) w (w1.alloc (.cells #[.int .i64 ps[n].1, .bool ps[n].2] 36)) := (hw.trans (Upd.of_below hb1 |>.mono (S' := fun _ => False) (fun _ _ h => h))).alloc _
  have hgx : (w1.alloc (.cells #[.int .i64 ps[n].1, .bool ps[n].2] 36)).heap[w1.heap.size]? = some (.cells #[.int .i64 ps[n].1, .bool ps[n].2] 36) := heap_alloc_last w1 _ rfl
  have hrx : (w1.alloc (.cells #[.int .i64 ps[n].1, .bool ps[n].2] 36)).heap[w.heap.size]? = some (.cells #[.int .i64 0, .bool false] 36) :=
    (((Upd.of_below (S := fun _ => False) hb1).alloc _).block _ (by simp) (fun h => h)).trans (heap_alloc_last w _ rfl)
  go_wp2
  generalize hw2 : (w1.alloc (.cells #[.int .i64 ps[n].1, .bool ps[n].2] 36)) = w2
  rw [hw2] at hu1 hgx hrx
  have hz2 : w2.heap.size = w1.heap.size + 1 := by rw [← hw2]; simp
  clear hw2 hb1 hw
  have hI2 := H.out.keep hu1 (fun h => h) (fun _ _ h => h)
  obtain ⟨w3, hdel, hM3, hu23', hz3⟩ := (show MapAt w2.drew mb N (atOf ps) from hI2.map).drop (x := ps[n].1) (by omega) (by rcases hr with e | e; rw [e]; decide; omega) 0
  have hu23 := hu23'.undrew
  obtain ⟨g, off, cap, rfl, hg, P0, P1⟩ := hI2.at hn
  have hbm : b ≠ mb := fun e => hI2.nm e.symm
  have hgm : g ≠ mb := fun e => hI2.nv (by rw [e]; rfl)
  have hgb : g ≠ b := fun e => hI2.ne (by rw [e]; rfl)
  have hmlt := H.out.map.lt
  have hblt := H.out.blt
  have hglt := H.out.sl.lt (g := g) rfl
  have T2 := cell_of_block hI2.str 1
  have u0 := cell_of_block hgx 0
  simp at T2 u0
  have G3 := (hu23.block _ (by omega) (by omega)).trans hgx
  have R3 := (hu23.block _ (by omega) (by omega)).trans hrx
  have T3 := (hu23.block _ hI2.blt hbm).trans hI2.str
  have S3 := hI2.sl.keep hu23 (fun g' hg' e => by simp [Value.ownBlock] at hg'; omega)
  have HM3 := Lib.hid hM3
  have HZ3 : w3.heap.size = w1.heap.size + 1 := hz3.trans hz2
  have HU3 := Lib.hid ((hu1.mono (S' := fun j => j = mb) (fun _ _ h => h.elim)).trans hu23)
  clear hu1 hgx hrx hz2 hI2 P0 P1 hu23' hu23 hM3 hg hz3
  go_wp2
  go_region
  clear hdel T2 u0
  have t0 := cell_of_block T3 0
  simp at t0
  obtain ⟨g', off', cap', cur, hve, hg3, hcs, hcc⟩ := S3.at (by omega)
  cases hve
  have HG3 := Lib.hid G3
  have HR3 := Lib.hid R3
  have HT3 := Lib.hid T3
  have HS3 := Lib.hid S3
  have E0 := (cell_of_block hg3 (off + n * 2)).trans (hcc _ _ (plC_at hn).1)
  have E1 := (cell_of_block hg3 (off + n * 2 + 1)).trans (hcc (n * 2 + 1) _ (plC_at hn).2)
  have F0 := frozen_of_block hg3 (off + n * 2)
  have F1 := frozen_of_block hg3 (off + n * 2 + 1)
  have hg3' := lt_of_block hg3
  have hb3' := lt_of_block T3
  clear G3 R3 T3 S3 hcs hcc hg3
  go_wp2
  go_region_held3 (fun W => W.cell? ⟨b, 0, none⟩ = some (.slice (some ⟨g, off, none⟩) ps.length cap)) (go_keep)
    ((go_at_call 48; refine (nowhere_ok _).mono ?_; rintro e w4 ⟨rfl, hu4, hz4⟩; have k0 := (hu4.cellAt (o := 0) (by simp; omega) (fun h => h)).trans t0; have k1 := (hu4.cellAt (by simp; omega) (fun h => h)).trans E0; have k2 := (hu4.cellAt (by simp; omega) (fun h => h)).trans E1; have k3 := (hu4.frozenAt (by simp; omega) (fun h => h)).trans F0; have k4 := (hu4.frozenAt (by simp; omega) (fun h => h)).trans F1))
  generalize hw5 : ((w4.setCell ⟨g, off + n * 2, none⟩ (.int .i64 (-1))).setCell ⟨g, off + n * 2 + 1, none⟩ (.bool false)) = w5
  have hu34 : Upd (fun _ => False) w3 w4 := hu4.undrew
  have hu45 : Upd (fun j => j = g) w4 w5 := by rw [← hw5]; exact (upd_setCell w4 g (off + n * 2) _).trans (upd_setCell _ g (off + n * 2 + 1) _)
  have S4 := HS3.out.keep hu34 (fun _ _ h => h)
  have S5 : Sl w5 36 2 (.slice (some ⟨g, off, none⟩) ps.length cap) (ps.set n (-1, false)).length (plC (ps.set n (-1, false))) := by
    rw [← hw5]; exact S4.putPlace n hn (-1) false
  have hz5 : w5.heap.size = w1.heap.size + 2 := by rw [← hw5]; simp [hz4]; simp [HZ3]
  clear hw5 k0 k1 k2 k3 k4 E0 E1 F0 F1 t0
  have hu35 := (hu34.mono (S' := fun j => j = g) (fun _ _ h => h.elim)).trans hu45
  have M5 := HM3.out.keep hu35 (fun e => hgm e.symm)
  have T5 := (hu35.block _ (by omega) (fun e => hgb e.symm)).trans HT3.out
  have G5 := (hu35.block _ (by omega) (by omega)).trans HG3.out
  have R5 := (hu35.block _ (by omega) (by omega)).trans HR3.out
  have HI5 : Hid (IndexAt w5 b (.slice (some ⟨g, off, none⟩) ps.length cap) mb N (ps.set n (-1, false)) slots) :=
    { str := T5, sl := by simpa using S5, map := by rw [hgood.atOf_drop hn]; exact M5, good := hgood.drop n, ne := H.out.ne, nm := H.out.nm, nv := H.out.nv, le := by simpa using hle, sl1 := hsl }
  have HU5 : Hid (Upd (ixS (.slice (some ⟨g, off, none⟩) ps.length cap) mb) w w5) :=
    (HU3.out.mono (fun j _ e => .inr e)).trans (hu35.mono (fun j _ e => .inl (by rw [e]; rfl)))
  have HR5 := Lib.hid R5
  have r0 := cell_of_block R5 0
  have r1 := cell_of_block R5 1
  have q0 := frozen_of_block R5 0
  have q1 := frozen_of_block R5 1
  have x0 := cell_of_block G5 0
  have x1 := cell_of_block G5 1
  simp at r0 r1 x0 x1
  clear hu34 hu45 S4 S5 hu35 M5 T5 G5 R5 hz4 hu4
  go_wp2
  have HA3 := heap_setCell_same (heap_setCell_same HR5.out 0 (.int .i64 ps[n].1)) 1 (.bool ps[n].2)
  have y0 := cell_of_block HA3 0
  have y1 := cell_of_block HA3 1
  simp at y0 y1
  have hue : Upd (fun j => j = w.heap.size) w5 ((w5.setCell ⟨w.heap.size, 0, none⟩ (.int .i64 ps[n].1)).setCell ⟨w.heap.size, 1, none⟩ (.bool ps[n].2)) := (upd_setCell w5 w.heap.size 0 _).trans (upd_setCell _ _ 1 _)
  refine bodyPost_ret (v := .tuple #[placeV ps[n].1 ps[n].2, .int .i64 0]) ?_ rfl ⟨rfl, ?_, ?_⟩
  · simp [results, Try.results27, go_sem, y0, y1]
  · exact HI5.out.keep hue (by omega) (fun j hj e => by have := H.out.slt j hj; omega)
  · exact HU5.out.new (hue.mono (fun _ _ h => h)) (fun j hj e => by omega)

/-- Drop, of whatever block. -/
theorem drop_any {w : World} {b mb N : Nat} {v : Value} {ps : List (Int × Bool)} {slots : Nat} (h : IndexAt w b v mb N ps slots) (k : Int) :
    Calls Try.prog 27 #[.pointer (some ⟨b, 0, none⟩), .int .i64 k] w fun e w' => e = .returned (.tuple #[placeV (getV ps k).1 (getV ps k).2, .int .i64 (getC ps k)]) ∧
      IndexAt w' b v mb N (dropL ps k) slots ∧ Upd (ixS v mb) w w' := by
  by_cases hc : getC ps k = 0
  · obtain ⟨n, hn, rfl, h0, h1, hv⟩ := getC_zero h.good hc
    have hL : dropL ps n = ps.set n (-1, false) := by simp [dropL, hc]
    rw [hL, hv, hc]
    exact drop_ok h n hn h0
  · have hL : dropL ps k = ps := by simp [dropL, hc]
    rw [hL, getV_bad hc]
    exact (drop_bad h k hc).mono fun e w' ⟨he, hb⟩ => ⟨he, h.below hb, Upd.of_below hb⟩

/-- Of the nil index. -/
theorem drop_nil (k : Int) (w : World) : Calls Try.prog 27 #[.pointer none, .int .i64 k] w fun e w' => e = .returned (.tuple #[placeV 0 false, .int .i64 2]) ∧ Below w.heap.size w w' := by
  go_enter Try.func27, Try.ntmps27
  go_wp2_with fail
  refine (get_nil k _).mono ?_
  rintro e w1 ⟨rfl, hb1⟩
  have hz1 := hb1.size
  simp at hz1
  have hB := below_upd ((Below.refl _ w).alloc (Nat.le_refl _) _) (Upd.of_below (S := fun _ => False) hb1) (Nat.le_refl _) (fun _ h => h.elim)
  have hrx : (w1.alloc (.cells #[.int .i64 0, .bool false] 36)).heap[w.heap.size]? = some (.cells #[.int .i64 0, .bool false] 36) :=
    (((Upd.of_below (S := fun _ => False) hb1).alloc _).block _ (by simp) (fun h => h)).trans (heap_alloc_last w _ rfl)
  obtain ⟨r0, r1, f0, f1⟩ := res_none _ _ hrx
  have Y := Lib.hid (res_same _ _ hrx)
  clear hrx
  go_wp2
  refine bodyPost_ret (v := .tuple #[placeV 0 false, .int .i64 2]) ?_ rfl ⟨rfl, res_below (hB.alloc (by omega) _) _ (by omega) _ _⟩
  simp [results, Try.results27, go_sem, Y.out.1, Y.out.2]

theorem clean_nil (k : Int) (w : World) : Calls Try.prog 18 #[.pointer none, .int .i64 k] w fun e w' => e = .returned (.int .i64 2) ∧ Below w.heap.size w w' := by
  go_enter Try.func18, Try.ntmps18
  go_wp2_with fail
  refine (get_nil k _).mono ?_
  rintro e w1 ⟨rfl, hb1⟩
  go_wp2
  go_ret
  exact ⟨rfl, hb1.alloc hb1.size _⟩

theorem clean_kept {w : World} {b mb N : Nat} {v : Value} {ps : List (Int × Bool)} {slots : Nat} (_ : IndexAt w b v mb N ps slots) (k : Int) (hc : getC ps k ≠ 0) : cleanL ps k = ps := by simp [cleanL, hc]
end Go.Proofs.Ytmgcekpfnkcmjaa
