/- The seal of a sector. The seal is asked; a writer's seal; a reader. A reader of a sector. Bounds of numbers; spans. Intents: their numbers, which may be, and the intent of numbers. The form of intents. Numbers, one behind the other, as bytes. -/
import Derived.Test.YtfhfbpmlnjdfoaaGreatDoorG07
import Derived.BigQuiet
import Derived.Laws.EntriesVeiled
namespace Go.Proofs.YtfhfbpmlnjdfoaaGreatDoor
open Go Go.RowKit
set_option maxRecDepth 100000 in
theorem seal1 {w : World} {gb ga : Nat} {x : Bk} {i : Nat} (hg : w.heap[gb]? = some (.cells (bkC x).toArray 54 (0, 0))) (hx : x.length = 64) (hi : i < 64) (b : UInt8)
    (ha : w.heap[ga]? = some (.cells #[.int .i64 (i : Int)] 3 (0, 0))) (hne : ¬ gb = ga) :
    Calls Tryz.prog 269 #[.int .u8 ((b.toNat : Nat) : Int), .pointer (some ⟨gb, 0, none⟩), .pointer (some ⟨ga, 0, none⟩)] w fun e w' => e = .returned (.tuple #[]) ∧
      w'.heap[gb]? = some (.cells (bkC (x.set i b)).toArray 54 (0, 0)) ∧ w'.heap[ga]? = some (.cells #[.int .i64 ((i + 1 : Nat) : Int)] 3 (0, 0)) ∧ Upd (fun j => j = gb ∨ j = ga) w w' := by
  have c0 : w.cell? ⟨ga, 0, none⟩ = some (.int .i64 (i : Int)) := cell_of_block ha 0
  have z0 := frozen_of_block ha 0
  have cb : ∃ v, w.cell? ⟨gb, i, none⟩ = some v := by
    rw [cell_of_block hg]
    exact ⟨_, Array.getElem?_eq_getElem (by rw [bkC_size _ hx]; exact hi)⟩
  obtain ⟨v0, cb⟩ := cb
  have zb := frozen_of_block hg i
  have hU : Upd (fun j => j = gb ∨ j = ga) w ((w.setCell ⟨gb, i, none⟩ (.int .u8 ((b.toNat : Nat) : Int))).setCell ⟨ga, 0, none⟩ (.int .i64 ((i : Int) + 1))) :=
    ((upd_setCell w gb i _).mono (fun _ _ h => .inl h)).trans ((upd_setCell _ _ _ _).mono (fun _ _ h => .inr h))
  have h1 := heap_setCell_same hg i (.int .u8 ((b.toNat : Nat) : Int))
  have h2 : ((w.setCell ⟨gb, i, none⟩ (.int .u8 ((b.toNat : Nat) : Int))).setCell ⟨ga, 0, none⟩ (.int .i64 ((i : Int) + 1))).heap[gb]? = some (.cells (bkC (x.set i b)).toArray 54 (0, 0)) := by
    rw [(upd_setCell _ ga 0 _).block gb (lt_of_block h1) hne, h1, List.setIfInBounds_toArray, bkC_set]; rfl
  have h3 : ((w.setCell ⟨gb, i, none⟩ (.int .u8 ((b.toNat : Nat) : Int))).setCell ⟨ga, 0, none⟩ (.int .i64 ((i : Int) + 1))).heap[ga]? = some (.cells #[.int .i64 ((i + 1 : Nat) : Int)] 3 (0, 0)) :=
    heap_setCell_same (((upd_setCell w gb i (.int .u8 ((b.toNat : Nat) : Int))).block ga (lt_of_block ha) (fun e => hne e.symm)).trans ha) 0 _
  have hb1 : 0 ≤ (i : Int) ∧ (i : Int) < 64 := ⟨by omega, by omega⟩
  obtain ⟨hb1, hb2⟩ := hb1
  have H := Lib.hid (And.intro h2 (And.intro h3 hU))
  clear hU h1 h2 h3 hg ha
  go_enter Tryz.func269, Tryz.ntmps269
  go_wp2
  go_end0
  exact ⟨rfl, H.out.1, H.out.2.1, H.out.2.2⟩
def sealTo (b : Bk) (i : Nat) : Bk := b.take 60 ++ lowB (crcC (b.take 60)) i ++ b.drop (60 + i)
theorem sealTo_len {b : Bk} (h : b.length = 64) {i : Nat} (hi : i ≤ 4) : (sealTo b i).length = 64 := by simp [sealTo, lowB_len, h]; omega
theorem sealTo_zero (b : Bk) : sealTo b 0 = b := by simp [sealTo, lowB]
theorem sealTo_four {b : Bk} (h : b.length = 64) : sealTo b 4 = sealB b := by
  unfold sealTo sealB
  rw [List.drop_of_length_le (by omega), List.append_nil]
theorem sealTo_set {b : Bk} (h : b.length = 64) {i : Nat} (hi : i < 4) : (sealTo b i).set (60 + i) (UInt8.ofNat (crcC (b.take 60) / 256 ^ i)) = sealTo b (i + 1) := by
  unfold sealTo
  have hl : (b.take 60 ++ lowB (crcC (b.take 60)) i).length = 60 + i := by simp [lowB_len, h]
  rw [List.set_append_right _ _ (by rw [hl]; exact Nat.le_refl _), hl, Nat.sub_self, lowB_snoc]
  have hd : b.drop (60 + i) = b[60 + i]'(by omega) :: b.drop (60 + (i + 1)) := List.drop_eq_getElem_cons (by omega)
  rw [hd, List.set_cons_zero]
  simp
theorem four_new (w : World) (A B C D : Obj) : let W := (((w.alloc A).alloc B).alloc C).alloc D
    W.heap[w.heap.size]? = some A ∧ W.heap[w.heap.size + 1]? = some B ∧ W.heap[w.heap.size + 1 + 1]? = some C ∧ W.heap[w.heap.size + 1 + 1 + 1]? = some D ∧ W.heap.size = w.heap.size + 4 ∧ Upd (fun _ => False) w W := by
  refine ⟨?_, ?_, ?_, heap_alloc_last _ _ (by simp), by simp, ((((Upd.refl _ w).alloc _).alloc _).alloc _).alloc _⟩
  · rw [Below.heap_alloc _ _ _ (by simp <;> omega), Below.heap_alloc _ _ _ (by simp <;> omega), Below.heap_alloc _ _ _ (by simp)]; exact heap_alloc_last w _ rfl
  · rw [Below.heap_alloc _ _ _ (by simp <;> omega), Below.heap_alloc _ _ _ (by simp)]; exact heap_alloc_last _ _ (by simp)
  · rw [Below.heap_alloc _ _ _ (by simp)]; exact heap_alloc_last _ _ (by simp)
set_option maxRecDepth 100000 in
set_option maxHeartbeats 1000000 in
theorem seal_any {w : World} (b : Bk) (hb : b.length = 64) (hN : Nib w) :
    Calls Tryz.prog 195 #[.agg (bkC b).toArray] w fun e w' => e = .returned (.agg (bkC (sealB b)).toArray) ∧ Below w.heap.size w w' := by
  have hmf : ∀ (fn : Fn) (first cap : Array Value) (w : World), (Instr.makeFunc fn first cap).run Tryz.prog w = .ok (.func fn first cap) w := fun _ _ _ _ => rfl
  have HN := Lib.hid hN
  have Hb := Lib.hid hb
  clear hN hb
  go_enter Tryz.func195, Tryz.ntmps195
  go_wp2_with fail
  show Calls _ _ _ ((((w.alloc (.cells (bkC b).toArray 54)).alloc (.cells (bkC zB).toArray 54)).alloc (.cells #[.int .i64 60] 3)).alloc (.cells #[.slice (some ⟨w.heap.size, 0, none⟩) 60 64] 205)) _
  obtain ⟨hA, hB, hC, hD, hS, hU⟩ := four_new w (.cells (bkC b).toArray 54) (.cells (bkC zB).toArray 54) (.cells #[.int .i64 60] 3) (.cells #[.slice (some ⟨w.heap.size, 0, none⟩) 60 64] 205)
  generalize (((w.alloc (.cells (bkC b).toArray 54)).alloc (.cells (bkC zB).toArray 54)).alloc (.cells #[.int .i64 60] 3)).alloc (.cells #[.slice (some ⟨w.heap.size, 0, none⟩) 60 64] 205) = w4 at *
  have hr := range_of_block hA
  have hrt : w4.rangeAt w.heap.size 0 (bkC (b.take 60)) := fun j v hv => by
    refine hr j v ?_
    have hj := (List.getElem?_eq_some_iff.1 hv).1
    rw [bkC_len, List.length_take] at hj
    simp only [bkC, List.getElem?_map] at hv ⊢
    rw [List.getElem?_take, if_pos (by omega)] at hv
    exact hv
  refine (sum_any (b.take 60) (HN.out.keep hU (fun h => h)) (cell_of_block hD 0) hrt (by rw [List.length_take, Hb.out]; rfl) (by omega) (by omega)).mono ?_
  rintro e w5 ⟨rfl, hb5⟩
  have hU5 : Upd (fun _ => False) w4 w5 := Upd.of_below hb5
  have hA5 := (hb5.block _ (lt_of_block hA)).trans hA
  have hB5 := (hb5.block _ (lt_of_block hB)).trans hB
  have hC5 := (hb5.block _ (lt_of_block hC)).trans hC
  have H5 := Lib.hid (And.intro hA5 (And.intro hB5 (And.intro hC5 (hU.trans hU5))))
  clear hA hB hC hD hS hU hr hrt hb5 hU5 hA5 hB5 hC5
  have Hs := Lib.hid (crcC_lt (b.take 60))
  obtain ⟨m, Hm⟩ : ∃ m, Hid (m = w.heap.size) := ⟨_, rfl⟩
  have hsum : Hid (∀ i, UInt8.ofNat (crcC (b.take 60) / 256 ^ i) = UInt8.ofNat (crcC (b.take 60) / 256 ^ i)) := fun _ => rfl
  go_wp2_with fail
  refine (low_any (w := w5) (crcC (b.take 60)) 4 (by have := Hs.out; omega) (by omega) 269 #[.pointer (some ⟨w.heap.size, 0, none⟩), .pointer (some ⟨w.heap.size + 1 + 1, 0, none⟩)] (fun _ _ => rfl)
    (fun i W => W.heap[w.heap.size]? = some (.cells (bkC (sealTo b i)).toArray 54 (0, 0)) ∧ W.heap[w.heap.size + 1 + 1]? = some (.cells #[.int .i64 ((60 + i : Nat) : Int)] 3 (0, 0)) ∧ Upd (fun j => j = w.heap.size ∨ j = w.heap.size + 1 + 1) w5 W) ⟨by rw [sealTo_zero]; exact H5.out.1, H5.out.2.2.1, Upd.refl _ _⟩ ?_).mono ?_
  · intro i hi W hJ
    refine (seal1 hJ.1 (sealTo_len Hb.out (by omega)) (by omega) (UInt8.ofNat (crcC (b.take 60) / 256 ^ i)) hJ.2.1 (by omega)).mono ?_
    rintro e w' ⟨rfl, h1, h2, h3⟩
    rw [sealTo_set Hb.out hi] at h1
    exact ⟨rfl, h1, h2, hJ.2.2.trans h3⟩
  · rintro e w6 ⟨rfl, h1, h2, h3⟩
    rw [sealTo_four Hb.out] at h1
    have hsl := sealB_len Hb.out
    have r6 := range_of_block h1
    have hg6 := (h3.block (w.heap.size + 1) (lt_of_block H5.out.2.1) (by omega)).trans H5.out.2.1
    have hth : w6.there (w.heap.size + 1) 0 64 := fun j hj => by
      rw [cell_of_block hg6, frozen_of_block hg6]
      exact ⟨by rw [Nat.zero_add, Array.getElem?_eq_getElem (by rw [bkC_size _ zB_len]; exact hj)]; rfl, rfl⟩
    have hst : w6.there (w.heap.size + 1) 0 (bkC (sealB b)).toArray.size := by rw [bkC_size _ hsl]; exact hth
    have hst2 : w6.there (w.heap.size + 1) 0 (bkC (sealB b)).length := by rw [bkC_len, hsl]; exact hth
    have hsz2 : (Tryz.prog.info? 54).map (·.size) = some (bkC (sealB b)).toArray.size := by rw [bkC_size _ hsl]; exact sizeBk'
    have HST := Lib.hid (And.intro hst (And.intro hsz2 (And.intro hst2 (And.intro hsl h3))))
    clear hst hsz2 hst2 hsl h3 h1 h2 hg6 hth
    generalize hsb : sealB b = sb at *
    have Hsb := Lib.hid hsb
    clear hsb
    go_wp2_with (first
      | (refine wpList_load_mid rfl _ _ rfl _ _ rfl _ _ r6 Tryz.underlying54 rfl (sizeBk _ HST.out.2.2.2.1) ?_)
      | (refine wpList_store_mid rfl _ _ _ rfl _ _ (bkC sb).toArray rfl rfl HST.out.1 HST.out.2.1 (all_oneCell_toArray (bkC_one _)) ?_)
      | fail)
    exact bodyPost_ret (results_mid1 rfl _ _ (w.heap.size + 1) 0 (bkC sb) _ rfl (World.rangeAt_setCells_same _ _ _ _ HST.out.2.2.1) Tryz.underlying54 rfl (sizeBk _ HST.out.2.2.2.1)) rfl
      ⟨by rw [Hsb.out], below_upd (below_upd (Upd.below H5.out.2.2.2) HST.out.2.2.2.2 (Nat.le_refl _) (fun k e => by omega)) (upd_row w6 (w.heap.size + 1) 0 _) (Nat.le_refl _) (fun k e => by omega)⟩
theorem size_u8 (w : World) : (sizeOf 5).run Tryz.prog w = .ok 1 w := by
  have hu : (Tryz.prog.info? 5).map (·.size) = some 1 := by kernel_rfl
  obtain ⟨i, hi, hs⟩ := Option.map_eq_some_iff.1 hu
  simp [sizeOf, typeInfo, hi, hs]
theorem eqIn_bk (x y : Bk) (hx : x.length = 64) (hy : y.length = 64) (w : World) : (Op.equalIn 10000 54 (.agg (bkC x).toArray) (.agg (bkC y).toArray)).run Tryz.prog w = .ok (x == y) w :=
  run_equalIn_bytes (P := Tryz.prog) w 9998 54 5 64 Tryz.underlying54 Tryz.underlying5 size_u8 x y hx hy
theorem Below.range {W W' : World} (hb : Below W.heap.size W W') {b o : Nat} {cs : List Value} (h : W.rangeAt b o cs) : W'.rangeAt b o cs :=
  (Upd.of_below (S := fun _ => False) hb).range h (fun h => h)
theorem bundrew' {w w' : World} (h : Below w.drew.heap.size w.drew w') : Below w.heap.size w w' := ⟨h.os, h.tape, h.output, h.size, h.block⟩
def sealedC (b : Bk) : Int := if sealB b = b then 0 else 13
set_option maxRecDepth 100000 in
set_option maxHeartbeats 1000000 in
theorem sealed_any {w : World} (b : Bk) (hb : b.length = 64) (hN : Nib w) :
    Calls Tryz.prog 197 #[.agg (bkC b).toArray] w fun e w' => e = .returned (.int .i64 (sealedC b)) ∧ Below w.heap.size w w' := by
  have hua : Upd (fun _ => False) w (w.alloc (.cells (bkC b).toArray 54)) := (Upd.refl _ w).alloc _
  have hr := range_of_block (heap_alloc_last w (.cells (bkC b).toArray 54) rfl)
  have hut := Tryz.underlying54
  have hsi := sizeBk b hb
  have hlx : (bkC b).length = 64 := by rw [bkC_len, hb]
  have hq := eqIn_bk (sealB b) b (sealB_len hb) hb
  have HN : Hid (Nib (w.alloc (.cells (bkC b).toArray 54)).drew) := (hN.keep hua (fun h => h)).keep ((Upd.refl (fun _ => False) _).drew) (fun h => h)
  have HU := Lib.hid hua
  have Hb := Lib.hid hb
  clear hN hua hb
  by_cases hs : sealB b = b
  · have hsc : Hid (sealedC b = 0) := if_pos hs
    have hqq : (sealB b == b) = true := by simpa using hs
    have hqn : (!(sealB b == b)) = false := by rw [hqq]; rfl
    clear hs
    go_enter Tryz.func197, Tryz.ntmps197
    go_wp2_with fail
    refine wp_region_held_drew (S := fun W => W.rangeAt w.heap.size 0 (bkC b)) (by kernel_rfl) (by rw [World.rangeAt_drew]; exact hr) (fun hHeld => ?_)
    refine' wpAnyH_take (i := 0) rfl (by kernel_rfl) (by kernel_rfl) (by kernel_rfl) (fun _ _ _ h => h) (yieldsIf_load_mid (by rfl) _ _ rfl _ _ rfl _ _ (fun w h => h) hut rfl hsi) hHeld _
    simp only [Act.put, List.setIfInBounds_toArray]
    refine' wpAnyH_take (i := 2) rfl (by kernel_rfl) (by kernel_rfl) (by kernel_rfl) (fun _ _ _ h => h) (yieldsIf_load_mid (by rfl) _ _ rfl _ _ rfl _ _ (fun w h => h) hut rfl hsi) hHeld _
    simp only [Act.put]
    refine Wl.r 1 (fun K hK => ?_)
    go_simp
    refine (seal_any b Hb.out HN.out).mono ?_
    rintro e w2 ⟨rfl, hb2⟩
    refine hK.out _ _ (Below.range hb2 hHeld) (fun hHeld2 => ?_)
    clear hK K
    refine Wl.r 3 (fun K hK => ?_)
    go_simp
    refine hK.out _ _ hHeld2 (fun _ => ?_)
    clear hK K
    refine Wl.d ?_
    have HB : Hid (Below w.heap.size w w2) := (Upd.below HU.out).trans ((bundrew' hb2).mono HU.out.size)
    clear hHeld hHeld2 hb2
    go_wp2
    go_ret
    exact ⟨by rw [hsc.out]; rfl, HB.out⟩
  · have hsc : Hid (sealedC b = 13) := if_neg hs
    have hqq : (sealB b == b) = false := by simpa using hs
    have hqn : (!(sealB b == b)) = true := by rw [hqq]; rfl
    clear hs
    go_enter Tryz.func197, Tryz.ntmps197
    go_wp2_with fail
    refine wp_region_held_drew (S := fun W => W.rangeAt w.heap.size 0 (bkC b)) (by kernel_rfl) (by rw [World.rangeAt_drew]; exact hr) (fun hHeld => ?_)
    refine' wpAnyH_take (i := 0) rfl (by kernel_rfl) (by kernel_rfl) (by kernel_rfl) (fun _ _ _ h => h) (yieldsIf_load_mid (by rfl) _ _ rfl _ _ rfl _ _ (fun w h => h) hut rfl hsi) hHeld _
    simp only [Act.put, List.setIfInBounds_toArray]
    refine' wpAnyH_take (i := 2) rfl (by kernel_rfl) (by kernel_rfl) (by kernel_rfl) (fun _ _ _ h => h) (yieldsIf_load_mid (by rfl) _ _ rfl _ _ rfl _ _ (fun w h => h) hut rfl hsi) hHeld _
    simp only [Act.put]
    refine Wl.r 1 (fun K hK => ?_)
    go_simp
    refine (seal_any b Hb.out HN.out).mono ?_
    rintro e w2 ⟨rfl, hb2⟩
    refine hK.out _ _ (Below.range hb2 hHeld) (fun hHeld2 => ?_)
    clear hK K
    refine Wl.r 3 (fun K hK => ?_)
    go_simp
    refine hK.out _ _ hHeld2 (fun _ => ?_)
    clear hK K
    refine Wl.d ?_
    have HB : Hid (Below w.heap.size w w2) := (Upd.below HU.out).trans ((bundrew' hb2).mono HU.out.size)
    clear hHeld hHeld2 hb2
    go_wp2
    go_ret
    exact ⟨by rw [hsc.out]; rfl, HB.out⟩
set_option maxRecDepth 100000 in
set_option maxHeartbeats 1000000 in
theorem wseal {w : World} {g : Nat} {bs : List UInt8} (h : WrAt w g bs) (hN : Nib w) :
    Calls Tryz.prog 124 #[.pointer (some ⟨g, 0, none⟩)] w fun e w' => e = .returned (.tuple #[.agg (bkC (sealB (padB bs))).toArray, .int .i64 0]) ∧ Below w.heap.size w w' := by
  have H := Lib.hid (And.intro h hN)
  have hlw := h.lt
  clear h hN
  have hu : Upd (fun _ => False) w (w.alloc (.cells (bkC zB).toArray 54)) := (Upd.refl _ w).alloc _
  have hg1 := heap_alloc_last w (.cells (bkC zB).toArray 54) rfl
  have h1 := H.out.1.keep hu (fun h => h)
  have c65 := H.out.1.c65
  have rr := H.out.1.range
  have hpl : Hid ((padB bs).length = 64) := padB_len (by have := h1.1; omega)
  have HX := Lib.hid (And.intro h1 (And.intro hu hg1))
  clear h1 hu hg1
  go_enter Tryz.func124, Tryz.ntmps124
  go_wp2_with (first
    | (refine wpList_load_mid rfl _ _ rfl _ _ rfl _ _ (World.rangeAt_alloc rr _) Tryz.underlying54 rfl (sizeBk _ hpl.out) ?_)
    | fail)
  show Calls _ _ _ (w.alloc (.cells (bkC zB).toArray 54)) _
  generalize (w.alloc (.cells (bkC zB).toArray 54)) = w1 at *
  obtain ⟨h1, hu, hg1⟩ := HX.out
  refine (seal_any (padB bs) hpl.out (H.out.2.keep hu (fun h => h))).mono ?_
  rintro e w6 ⟨rfl, hb⟩
  have hsl := sealB_len hpl.out
  have hg6 := (hb.block w.heap.size (lt_of_block hg1)).trans hg1
  have hth : w6.there w.heap.size 0 64 := fun j hj => by
    rw [cell_of_block hg6, frozen_of_block hg6]
    exact ⟨by rw [Nat.zero_add, Array.getElem?_eq_getElem (by rw [bkC_size _ zB_len]; exact hj)]; rfl, rfl⟩
  have hst : w6.there w.heap.size 0 (bkC (sealB (padB bs))).toArray.size := by rw [bkC_size _ hsl]; exact hth
  have hst2 : w6.there w.heap.size 0 (bkC (sealB (padB bs))).length := by rw [bkC_len, hsl]; exact hth
  have hsz2 : (Tryz.prog.info? 54).map (·.size) = some (bkC (sealB (padB bs))).toArray.size := by rw [bkC_size _ hsl]; exact sizeBk'
  have HST := Lib.hid (And.intro hst (And.intro hsz2 (And.intro hst2 (And.intro hsl (And.intro hb hu)))))
  clear hst hsz2 hst2 hsl hg6 hth h1 hu hg1 hb
  generalize hsb : sealB (padB bs) = sb at *
  have Hsb := Lib.hid hsb
  clear hsb
  go_wp2_with (first
    | (refine wpList_store_mid rfl _ _ _ rfl _ _ (bkC sb).toArray rfl rfl HST.out.1 HST.out.2.1 (all_oneCell_toArray (bkC_one _)) ?_)
    | fail)
  exact bodyPost_ret (results_mid2 rfl _ _ w.heap.size 0 (bkC sb) _ rfl (World.rangeAt_setCells_same _ _ _ _ HST.out.2.2.1) Tryz.underlying54 rfl (sizeBk _ HST.out.2.2.2.1)) rfl
      ⟨by rw [Hsb.out]; rfl, below_upd ((Upd.below HST.out.2.2.2.2.2).trans (HST.out.2.2.2.2.1.mono HST.out.2.2.2.2.2.size)) (upd_row w6 w.heap.size 0 _) (Nat.le_refl _) (fun k e => by omega)⟩
def RdAt (w : World) (g : Nat) (b : Bk) (at_ : Nat) : Prop :=
  b.length = 64 ∧ at_ ≤ 60 ∧ w.heap[g]? = some (.cells (bkC b ++ [Value.int .i64 (at_ : Int), Value.int .i64 0]).toArray 396 (0, 0))
section
variable {w w' : World} {g at_ : Nat} {b : Bk}
theorem RdAt.lt (h : RdAt w g b at_) : g < w.heap.size := lt_of_block h.2.2
theorem RdAt.keep (h : RdAt w g b at_) {S : Nat → Prop} (hu : Upd S w w') (hs : ¬ S g) : RdAt w' g b at_ := ⟨h.1, h.2.1, (hu.block g h.lt hs).trans h.2.2⟩
theorem RdAt.len (h : RdAt w g b at_) : (bkC b).length = 64 := by rw [bkC_len, h.1]
theorem RdAt.c64 (h : RdAt w g b at_) : w.cell? ⟨g, 64, none⟩ = some (.int .i64 (at_ : Int)) := by
  rw [cell_of_block h.2.2, List.getElem?_toArray, List.getElem?_append_right (by rw [h.len]; omega), h.len]; rfl
theorem RdAt.c65 (h : RdAt w g b at_) : w.cell? ⟨g, 65, none⟩ = some (.int .i64 0) := by
  rw [cell_of_block h.2.2, List.getElem?_toArray, List.getElem?_append_right (by rw [h.len]; omega), h.len]; rfl
theorem RdAt.fz (h : RdAt w g b at_) (i : Nat) : w.frozen? ⟨g, i, none⟩ = false := frozen_of_block h.2.2 i
theorem RdAt.byte (h : RdAt w g b at_) {i : Nat} (hi : i < b.length) : w.cell? ⟨g, i, none⟩ = some (.int .u8 ((b[i].toNat : Nat) : Int)) := by
  rw [cell_of_block h.2.2, List.getElem?_toArray, List.getElem?_append_left (by rw [bkC_len]; exact hi)]
  simp only [bkC, List.getElem?_map, List.getElem?_eq_getElem hi, Option.map_some]; rfl
theorem RdAt.set65 (h : RdAt w g b at_) : RdAt (w.setCell ⟨g, 65, none⟩ (.int .i64 0)) g b at_ := by
  refine ⟨h.1, h.2.1, ?_⟩
  rw [heap_setCell_same h.2.2 65 (.int .i64 0)]
  congr 2
  rw [List.setIfInBounds_toArray, List.set_append_right _ _ (by rw [h.len]; omega), h.len]
  rfl
theorem RdAt.set64 (h : RdAt w g b at_) {n : Nat} (hn : n ≤ 60) : RdAt (w.setCell ⟨g, 64, none⟩ (.int .i64 (n : Int))) g b n := by
  refine ⟨h.1, hn, ?_⟩
  rw [heap_setCell_same h.2.2 64 (.int .i64 (n : Int))]
  congr 2
  rw [List.setIfInBounds_toArray, List.set_append_right _ _ (by rw [h.len]; omega), h.len]
  rfl
end
theorem numB_snoc (l : List UInt8) (b : UInt8) : numB (l ++ [b]) = numB l ||| (b.toNat <<< (8 * l.length)) ∧ numB (l ++ [b]) = numB l + b.toNat * 2 ^ (8 * l.length) ∧ numB l < 2 ^ (8 * l.length) := by
  have hlt : ∀ l : List UInt8, numB l < 2 ^ (8 * l.length) := by
    intro l
    induction l with
    | nil => simp [numB]
    | cons a l ih =>
      have ha := a.toNat_lt
      simp only [numB, List.length_cons]
      rw [show 8 * (l.length + 1) = 8 * l.length + 8 by omega, Nat.pow_add]
      omega
  have hadd : numB (l ++ [b]) = numB l + b.toNat * 2 ^ (8 * l.length) := by
    induction l with
    | nil => simp [numB]
    | cons a l ih =>
      simp only [List.cons_append, numB, List.length_cons]
      rw [ih, show 8 * (l.length + 1) = 8 + 8 * l.length by omega, Nat.pow_add]
      rw [show (2 : Nat) ^ 8 = 256 from rfl]
      rw [Nat.mul_add, Nat.add_assoc, Nat.mul_left_comm]
  refine ⟨?_, hadd, hlt l⟩
  rw [hadd, Nat.shiftLeft_eq, Nat.add_comm, Nat.mul_comm, Nat.two_pow_add_eq_or_of_lt (hlt l), Nat.or_comm]
theorem wrap64_nat (M : Nat) (h : M < 4611686018427387904) : wrap64 (M : Int) = M := by unfold wrap64; omega
theorem shl_or (A c m : Nat) (hA : A < 281474976710656) (hc : c < 256) (hm : 2 ^ m ≤ 281474976710656) : bits .or .i64 (A : Int) (wrap64 ((c : Int) * 2 ^ m)) = ((A ||| c <<< m : Nat) : Int) := by
  have h1 : c * 2 ^ m ≤ 255 * 281474976710656 := Nat.mul_le_mul (by omega) hm
  have hcast : ((c : Int) * 2 ^ m) = ((c * 2 ^ m : Nat) : Int) := by rw [Int.natCast_mul, Int.natCast_pow]; rfl
  rw [hcast, ← Nat.shiftLeft_eq]
  rw [← Nat.shiftLeft_eq] at h1
  generalize c <<< m = M at *
  rw [wrap64_nat M (by omega)]
  exact bits_or_nat _ _ (by omega) (by omega)
set_option maxRecDepth 100000 in
set_option maxHeartbeats 1000000 in
theorem rtake {w : World} {g at_ : Nat} {b : Bk} (h : RdAt w g b at_) (size : Nat) (h1 : 1 ≤ size) (h2 : size ≤ 7) (hl : at_ + size ≤ 60) :
    Calls Tryz.prog 199 #[.pointer (some ⟨g, 0, none⟩), .int .i64 (size : Int)] w fun e w' => e = .returned (.int .i64 ((numB ((b.drop at_).take size) : Nat) : Int)) ∧ RdAt w' g b (at_ + size) ∧ Upd (fun j => j = g) w w' := by
  have c64 := h.c64
  have c65 := h.c65
  have z65 := h.fz 65
  have H := Lib.hid h
  have HL := Lib.hid (And.intro h1 (And.intro h2 hl))
  have hat := h.2.1
  clear h
  go_enter Tryz.func199, Tryz.ntmps199
  go_wp2_with fail
  rw [show (60 : Int) - (at_ : Int) = ((60 - at_ : Nat) : Int) by omega]
  refine (may_ok 0 size (60 - at_) h1 h2 (Nat.pow_pos (by omega)) (by omega) (by omega) _).mono ?_
  rintro e w' ⟨rfl, rfl⟩
  go_wp2
  have h' := H.out.set65
  have hU : Upd (fun j => j = g) w' (w'.setCell ⟨g, 65, none⟩ (.int .i64 0)) := upd_setCell _ _ _ _
  generalize (w'.setCell ⟨g, 65, none⟩ (.int .i64 0)) = w1 at *
  have H1 := Lib.hid (And.intro h' hU)
  clear h' hU c64 c65 z65
  go_loopw [5, 32] (fun s5 s32 wr => ∃ k : Nat, k ≤ size ∧ s32 = .int .i64 k ∧ s5 = .int .i64 ((numB ((b.drop at_).take k) : Nat) : Int) ∧ RdAt wr g b at_ ∧ Upd (fun j => j = g) w' wr) (fun _ s32 _ => size - (intOf s32).toNat)
  case atStart => exact ⟨0, Nat.zero_le _, rfl, by simp [numB], H1.out.1, H1.out.2⟩
  case round =>
    obtain ⟨k, hk, rfl, rfl, hr, hu⟩ := hrel
    have c64 := hr.c64
    by_cases hlt : k < size
    · have hbl : b.length = 64 := hr.1
      have hi : at_ + k < b.length := by omega
      have cb := hr.byte hi
      have e1 : IntKind.i64.wrap ((at_ : Int) + (k : Int)) = (at_ : Int) + (k : Int) := IntWalk.i64_in _ (by omega)
      have e2 : ((at_ : Int) + (k : Int)).toNat = at_ + k := by omega
      have e3 : IntKind.i64.wrap (8 * (k : Int)) = 8 * (k : Int) := IntWalk.i64_in _ (by omega)
      have b1 : (0 : Int) ≤ (at_ : Int) + (k : Int) ∧ (at_ : Int) + (k : Int) < 64 := by omega
      obtain ⟨b1, b2⟩ := b1
      have hts : (b.drop at_).take (k + 1) = (b.drop at_).take k ++ [b[at_ + k]] := by
        rw [List.take_succ_eq_append_getElem (by simp; omega)]; simp
      have hln : ((b.drop at_).take k).length = k := by simp; omega
      obtain ⟨n1, n2, n3⟩ := numB_snoc ((b.drop at_).take k) b[at_ + k]
      rw [hln] at n1 n2 n3
      have hbt : b[at_ + k].toNat < 256 := b[at_ + k].toNat_lt
      have HH := Lib.hid (And.intro hr (And.intro hu (And.intro hts (And.intro n1 n3))))
      clear hr hu hts hln n1 n2 n3 hbl
      generalize b[at_ + k].toNat = by1 at *
      go_wp2
      go_quiet (fail)
      clear e1 e2 e3 b1 b2
      have hpw : (2 : Nat) ^ (8 * k) ≤ 281474976710656 := Nat.le_trans (Nat.pow_le_pow_right (by decide) (show 8 * k ≤ 48 by omega)) (by decide)
      have hv : bits .or .i64 ((numB ((b.drop at_).take k) : Nat) : Int) (wrap64 ((by1 : Int) * 2 ^ (8 * k))) = ((numB ((b.drop at_).take (k + 1)) : Nat) : Int) := by
        obtain ⟨-, -, hts, n1, n3⟩ := HH.out
        rw [hts, n1]
        exact shl_or _ _ _ (Nat.lt_of_lt_of_le n3 hpw) (by omega) hpw
      rw [hv]
      have hr2 := HH.out.1.keep ((Upd.refl (fun _ => False) wr).drewN nq) (fun h => h)
      have hu2 : Upd (fun j => j = g) w' (wr.drewN nq) := HH.out.2.1.drewN nq
      have HZ := Lib.hid (And.intro hr2 hu2)
      clear hr2 hu2 hv hpw
      generalize wr.drewN nq = wz at *
      go_wp2
      go_roundw
      case rel => exact ⟨k + 1, by omega, by go_num, rfl, HZ.out.1, HZ.out.2⟩
      case measure => simp [intOf]; omega
    · obtain rfl : k = size := by omega
      have z64 := hr.fz 64
      have h9 := hr.set64 (n := at_ + k) (by omega)
      rw [show ((at_ + k : Nat) : Int) = (at_ : Int) + (k : Int) from rfl] at h9
      have HH := Lib.hid (And.intro h9 hu)
      clear hr hu h9
      go_wp2
      go_ret
      exact ⟨rfl, HH.out.1, HH.out.2.trans (upd_setCell _ _ _ _)⟩
theorem zero_rd : Tryz.zeroCells396.size = 66 := by kernel_rfl
theorem zero_rd2 : Tryz.zeroCells396[64]? = some (.int .i64 0) ∧ Tryz.zeroCells396[65]? = some (.int .i64 0) := by constructor <;> kernel_rfl
theorem built_rd (x : Bk) (hx : x.length = 64) : List.foldl (fun (cs : Array Value) (x : Value × Nat) => cs.setIfInBounds x.2 x.1) Tryz.zeroCells396 (bkC x).zipIdx = (bkC x ++ [Value.int .i64 0, Value.int .i64 0]).toArray := by
  have hb : (bkC x).length = 64 := by rw [bkC_len, hx]
  obtain ⟨f1, f2⟩ := Go.Great.foldl_set 0 (bkC x) 0 Tryz.zeroCells396
  simp only [Nat.zero_add] at f2
  apply Array.ext_getElem?
  intro k
  have e : (bkC x ++ [Value.int .i64 0, Value.int .i64 0]).toArray[k]? = (bkC x ++ [Value.int .i64 0, Value.int .i64 0])[k]? := List.getElem?_toArray
  rw [f2 k, zero_rd, e]
  by_cases hk : k < 64
  · rw [if_pos ⟨by omega, by omega, by omega⟩, List.getElem?_append_left (by omega)]; rfl
  · rw [if_neg (by omega), List.getElem?_append_right (by omega), hb]
    by_cases h4 : k = 64
    · subst h4; exact zero_rd2.1
    · by_cases h5 : k = 65
      · subst h5; exact zero_rd2.2
      · rw [Array.getElem?_eq_none (by rw [zero_rd]; omega), List.getElem?_eq_none (by simp; omega)]
set_option maxRecDepth 100000 in
set_option maxHeartbeats 1000000 in
theorem rread {w : World} (b : Bk) (hb : b.length = 64) :
    Calls Tryz.prog 198 #[.agg (bkC b).toArray] w fun e w' => ∃ g, e = .returned (.pointer (some ⟨g, 0, none⟩)) ∧ RdAt w' g b 0 ∧ w.heap.size ≤ g ∧ Below w.heap.size w w' := by
  have hr := range_of_block (heap_alloc_last w (.cells (bkC b).toArray 54) rfl)
  have Hb := Lib.hid hb
  have hbu := built_rd b hb
  have hlx : (bkC b).length = 64 := by rw [bkC_len, hb]
  clear hb
  go_enter Tryz.func198, Tryz.ntmps198
  go_wp2_with (first
    | (refine wpList_load_mid rfl _ _ rfl _ _ rfl _ _ hr Tryz.underlying54 rfl (sizeBk _ Hb.out) ?_)
    | fail)
  go_ret
  exact ⟨w.heap.size + 1, rfl, ⟨Hb.out, by omega, heap_alloc_last _ _ (by simp)⟩, by omega, ((Below.refl _ w).alloc (Nat.le_refl _) _).alloc (by simp) _⟩
def endB (b : Bk) (at_ : Nat) : Bool := ((b.drop at_).take (60 - at_)).all (· == 0)
def endC (b : Bk) (at_ : Nat) : Int := if endB b at_ = true then 0 else 12
set_option maxRecDepth 100000 in
set_option maxHeartbeats 1000000 in
theorem rend {w : World} {g at_ : Nat} {b : Bk} (h : RdAt w g b at_) :
    Calls Tryz.prog 200 #[.pointer (some ⟨g, 0, none⟩)] w fun e w' => e = .returned (.int .i64 (endC b at_)) ∧ Below w.heap.size w w' := by
  have c64 := h.c64
  have c65 := h.c65
  have hat := h.2.1
  have hbl := Lib.hid h.1
  have H := Lib.hid h
  clear h
  have b1 : (0 : Int) ≤ (at_ : Int) ∧ (at_ : Int) ≤ 60 := by omega
  obtain ⟨b1, b2⟩ := b1
  have e3 : IntKind.i64.wrap (60 - (at_ : Int)) = 60 - (at_ : Int) := IntWalk.i64_in _ (by omega)
  go_enter Tryz.func200, Tryz.ntmps200
  go_wp2
  go_quiet (fail)
  go_wp2
  have hr := H.out.keep ((Upd.refl (fun _ => False) w).drewN nq) (fun h => h)
  have HB : Hid (Below w.heap.size w (w.drewN nq)) := below_drewN (Below.refl _ w) nq
  clear c64 c65 e3
  generalize w.drewN nq = w1 at *
  go_loop [25] (fun s25 => ∃ k : Nat, k ≤ 60 - at_ ∧ s25 = .int .i64 k ∧ ((b.drop at_).take k).all (· == 0) = true) (fun s25 => 60 - at_ - (intOf s25).toNat)
  case atStart => exact ⟨0, Nat.zero_le _, rfl, by simp⟩
  case round =>
    obtain ⟨k, hk, rfl, ha⟩ := hrel
    have HA := Lib.hid ha
    clear ha
    by_cases hlt : k < 60 - at_
    · have hi : at_ + k < b.length := by rw [hbl.out]; omega
      have cb := hr.byte hi
      have hts : Hid ((b.drop at_).take (k + 1) = (b.drop at_).take k ++ [b[at_ + k]]) := by
        show _ = _
        rw [List.take_succ_eq_append_getElem (by simp; have := hbl.out; omega)]; simp
      have b3 : (0 : Int) ≤ (k : Int) ∧ (k : Int) < ((60 - at_ : Nat) : Int) := by omega
      have b4 : (k : Int) < ((64 - at_ : Nat) : Int) := by omega
      obtain ⟨b3, b3'⟩ := b3
      by_cases hz : b[at_ + k] = 0
      · have hq : (((b[at_ + k].toNat : Nat) : Int) == 0) = true := by rw [hz]; rfl
        have hq2 : (((b[at_ + k].toNat : Nat) : Int) != 0) = false := by rw [hz]; rfl
        have HZ := Lib.hid hz
        clear hz
        generalize b[at_ + k].toNat = by1 at *
        go_wp2
        go_round
        case rel => exact ⟨k + 1, by omega, by go_num, by rw [hts.out, List.all_append, HA.out, HZ.out]; rfl⟩
        case measure => simp [intOf]; omega
      · have hq : (((b[at_ + k].toNat : Nat) : Int) == 0) = false := by
          rw [beq_eq_false_iff_ne]
          intro e
          exact hz (UInt8.toNat_inj.1 (by have : (0 : UInt8).toNat = 0 := rfl; omega))
        have hq2 : (((b[at_ + k].toNat : Nat) : Int) != 0) = true := by simp [bne, hq]
        have hend : Hid (endC b at_ = 12) := by
          show _ = _
          unfold endC
          rw [if_neg]
          intro e
          unfold endB at e
          rw [List.all_eq_true] at e
          have hm : b[at_ + k] ∈ (b.drop at_).take (60 - at_) := by
            have h1 : b[at_ + k] ∈ (b.drop at_).take (k + 1) := by rw [hts.out]; simp
            exact (List.take_subset_take_left _ (by omega)) h1
          exact hz (by simpa using e _ hm)
        clear hz
        generalize b[at_ + k].toNat = by1 at *
        go_wp2
        go_ret
        exact ⟨by rw [hend.out]; rfl, HB.out⟩
    · obtain rfl : k = 60 - at_ := by omega
      have hend : Hid (endC b at_ = 0) := if_pos HA.out
      go_wp2
      go_ret
      exact ⟨by rw [hend.out]; rfl, HB.out⟩
def bndC (B : List (Int × Int)) : List Value := B.flatMap fun p => [.int .i64 p.1, .int .i64 p.2]
theorem bndC_at {B : List (Int × Int)} {i : Nat} (hi : i < B.length) : (bndC B)[i * 2]? = some (.int .i64 B[i].1) ∧ (bndC B)[i * 2 + 1]? = some (.int .i64 B[i].2) := by
  induction B generalizing i with
  | nil => simp at hi
  | cons p B ih =>
    cases i with
    | zero => exact ⟨rfl, rfl⟩
    | succ i =>
      have := ih (i := i) (by simpa using hi)
      rw [show (i + 1) * 2 = i * 2 + 2 by omega]
      exact this
def inB (p : Int × Int) (x : Int) : Bool := decide (p.1 ≤ x) && decide (x ≤ p.2)
def withinB (B : List (Int × Int)) (xs : List Int) : Bool := (B.zip xs).all fun q => inB q.1 q.2
def Bnd (w : World) (v : Value) (B : List (Int × Int)) : Prop :=
  ∃ g h c, v = .func (.func 196) #[] #[.pointer (some ⟨g, 0, none⟩)] ∧ w.cell? ⟨g, 0, none⟩ = some (.slice (some ⟨h, 0, none⟩) B.length c) ∧ w.rangeAt h 0 (bndC B)
theorem Bnd.below {w w' : World} {v : Value} {B : List (Int × Int)} (h : Bnd w v B) (hb : Below w.heap.size w w') : Bnd w' v B := by
  obtain ⟨g, k, c, hv, hc, hr⟩ := h
  exact ⟨g, k, c, hv, (Upd.of_below (S := fun _ => False) hb).cellv hc (fun h => h), Below.range hb hr⟩
theorem ints_range {w : World} {g o : Nat} {xs : List Int} (h : w.rangeAt g o (ints xs)) {i : Nat} (hi : i < xs.length) : w.cell? ⟨g, o + i, none⟩ = some (.int .i64 xs[i]) := h i _ (get_ints hi)
theorem all_false_at {α : Type} {l : List α} {p : α → Bool} {k : Nat} (hk : k < l.length) (h : p l[k] = false) : l.all p = false := by
  rw [← Bool.not_eq_true]
  intro e
  rw [List.all_eq_true] at e
  have := e _ (List.getElem_mem hk)
  rw [h] at this; cases this
theorem within_ok {w : World} {h n c : Nat} : Calls Tryz.prog 126 #[.slice (some ⟨h, 0, none⟩) n c] w fun e w' => e = .returned (.func (.func 196) #[] #[.pointer (some ⟨w.heap.size, 0, none⟩)]) ∧ w' = w.alloc (.cells #[.slice (some ⟨h, 0, none⟩) n c] 321) := by
  have hmf : ∀ (fn : Fn) (first cap : Array Value) (w : World), (Instr.makeFunc fn first cap).run Tryz.prog w = .ok (.func fn first cap) w := fun _ _ _ _ => rfl
  go_enter Tryz.func126, Tryz.ntmps126
  go_wp2
  go_ret
  exact ⟨rfl, rfl⟩
theorem Bnd.made {w : World} {h c : Nat} {B : List (Int × Int)} (hr : w.rangeAt h 0 (bndC B)) : Bnd (w.alloc (.cells #[.slice (some ⟨h, 0, none⟩) B.length c] 321)) (.func (.func 196) #[] #[.pointer (some ⟨w.heap.size, 0, none⟩)]) B :=
  ⟨w.heap.size, h, c, rfl, cell_of_block (heap_alloc_last w _ rfl) 0, World.rangeAt_alloc hr _⟩
set_option maxRecDepth 100000 in
set_option maxHeartbeats 1000000 in
theorem within_any {w : World} {g h c gl ol m cl : Nat} (B : List (Int × Int)) (xs : List Int) (hc : w.cell? ⟨g, 0, none⟩ = some (.slice (some ⟨h, 0, none⟩) B.length c)) (hr : w.rangeAt h 0 (bndC B)) (hx : w.rangeAt gl ol (ints xs)) (hm : xs.length = m) (hB : B.length ≤ m) (hm2 : m ≤ 100) :
    Calls Tryz.prog 196 #[.slice (some ⟨gl, ol, none⟩) m cl, .pointer (some ⟨g, 0, none⟩)] w fun e w' => e = .returned (.bool (withinB B xs)) ∧ Below w.heap.size w w' := by
  have H := Lib.hid (And.intro hr (And.intro hx hm))
  clear hr hx hm
  go_enter Tryz.func196, Tryz.ntmps196
  go_wp2
  go_loopw [8] (fun s8 wr => ∃ k : Nat, k ≤ B.length ∧ s8 = .int .i64 k ∧ Below w.heap.size w wr ∧ ((B.zip xs).take k).all (fun q => inB q.1 q.2) = true) (fun s8 _ => B.length - (intOf s8).toNat)
  case atStart => exact ⟨0, Nat.zero_le _, rfl, Below.refl _ _, by simp⟩
  case round =>
    obtain ⟨k, hk, rfl, hb, ha⟩ := hrel
    have HA := Lib.hid (And.intro ha hb)
    by_cases hlt : k < B.length
    · obtain ⟨hr, hx, hm⟩ := H.out
      have hkx : k < xs.length := by omega
      have r1 := (Below.range hb hr) (k * 2) _ (bndC_at hlt).1
      have r2 := (Below.range hb hr) (k * 2 + 1) _ (bndC_at hlt).2
      have rx := ints_range (Below.range hb hx) hkx
      rw [Nat.zero_add] at r1 r2
      have hts : Hid (((B.zip xs).take (k + 1)) = (B.zip xs).take k ++ [(B[k], xs[k])]) := by
        show _ = _
        rw [List.take_succ_eq_append_getElem (by rw [List.length_zip]; omega), List.getElem_zip]
      obtain ⟨lo, hi, hp⟩ : ∃ lo hi, B[k] = (lo, hi) := ⟨_, _, rfl⟩
      have HP := Lib.hid hp
      rw [hp] at r1 r2
      simp only at r1 r2
      have b3 : (0 : Int) ≤ (k : Int) ∧ (k : Int) < (B.length : Int) ∧ (k : Int) < (m : Int) := by omega
      have hbl : wr.heap.size ≤ wr.heap.size := Nat.le_refl _
      clear hp ha hr hx hm hb
      obtain ⟨b3, b4, b5⟩ := b3
      obtain ⟨x, hxk⟩ : ∃ x, xs[k] = x := ⟨_, rfl⟩
      have HX := Lib.hid hxk
      rw [hxk] at rx
      have hglt : gl < wr.heap.size := World.block_lt_of_cell? wr _ rx
      clear hxk
      have hblw : Below w.heap.size w (wr.alloc (.cells #[.int .i64 lo, .int .i64 hi] 219)) := HA.out.2.alloc HA.out.2.size _
      by_cases h1 : x < lo
      · have hin : Hid (withinB B xs = false) := by
          show _ = _
          refine all_false_at (k := k) (by rw [List.length_zip]; omega) ?_
          rw [List.getElem_zip, HP.out, HX.out]
          simp [inB]; omega
        have q1 : decide (x < lo) = true := by simpa using h1
        clear h1
        have HB := Lib.hid hblw
        clear hblw
        go_wp2
        go_quiet (fail)
        go_wp2
        go_ret
        exact ⟨by rw [hin.out]; rfl, below_drewN HB.out _⟩
      · by_cases h2 : hi < x
        · have hin : Hid (withinB B xs = false) := by
            show _ = _
            refine all_false_at (k := k) (by rw [List.length_zip]; omega) ?_
            rw [List.getElem_zip, HP.out, HX.out]
            simp [inB]; omega
          have q1 : decide (x < lo) = false := by simpa using h1
          have q2 : decide (hi < x) = true := by simpa using h2
          clear h1 h2
          have HB := Lib.hid hblw
          clear hblw
          go_wp2
          go_quiet (fail)
          go_wp2
          go_ret
          exact ⟨by rw [hin.out]; rfl, below_drewN HB.out _⟩
        · have hin : Hid (inB (B[k], xs[k]).1 (B[k], xs[k]).2 = true) := by
            show _ = _
            rw [HP.out, HX.out]
            simp [inB]; omega
          have q1 : decide (x < lo) = false := by simpa using h1
          have q2 : decide (hi < x) = false := by simpa using h2
          clear h1 h2
          have HB := Lib.hid hblw
          clear hblw
          go_wp2
          go_quiet (fail)
          go_wp2
          go_roundw
          case rel => exact ⟨k + 1, by omega, by go_num, below_drewN HB.out _, by rw [hts.out, List.all_append, HA.out.1]; simpa using hin.out⟩
          case measure => simp [intOf]; omega
    · obtain rfl : k = B.length := by omega
      have hin : Hid (withinB B xs = true) := by
        have := HA.out.1
        rw [List.take_of_length_le (by rw [List.length_zip]; omega)] at this
        exact this
      go_wp2
      go_ret
      exact ⟨by rw [hin.out]; rfl, HA.out.2⟩
theorem five_new (w : World) (A B C D E : Obj) : let W := ((((w.alloc A).alloc B).alloc C).alloc D).alloc E
    W.heap[w.heap.size]? = some A ∧ W.heap[w.heap.size + 1]? = some B ∧ W.heap[w.heap.size + 1 + 1]? = some C ∧ W.heap[w.heap.size + 1 + 1 + 1]? = some D ∧ W.heap[w.heap.size + 1 + 1 + 1 + 1]? = some E ∧ W.heap.size = w.heap.size + 5 ∧ Upd (fun _ => False) w W := by
  obtain ⟨h1, h2, h3, h4, h5, h6⟩ := four_new w A B C D
  refine ⟨?_, ?_, ?_, ?_, heap_alloc_last _ _ (by simp), by simp, h6.alloc _⟩
  · rw [Below.heap_alloc _ _ _ (lt_of_block h1)]; exact h1
  · rw [Below.heap_alloc _ _ _ (lt_of_block h2)]; exact h2
  · rw [Below.heap_alloc _ _ _ (lt_of_block h3)]; exact h3
  · rw [Below.heap_alloc _ _ _ (lt_of_block h4)]; exact h4
def encB (l : List (Nat × Nat)) : List UInt8 := l.flatMap fun p => lowB p.1 p.2
theorem encB_snoc (l : List (Nat × Nat)) (p : Nat × Nat) : encB (l ++ [p]) = encB l ++ lowB p.1 p.2 := by simp [encB]
def sizes (l : List (Nat × Nat)) : Nat := (l.map (·.2)).sum
theorem encB_len (l : List (Nat × Nat)) : (encB l).length = sizes l := by
  induction l with
  | nil => rfl
  | cons p l ih => simp only [encB, sizes, List.flatMap_cons, List.length_append, lowB_len, List.map_cons, List.sum_cons] at ih ⊢; rw [ih]
theorem sizes_take (l : List (Nat × Nat)) {i : Nat} (hi : i < l.length) : sizes (l.take i) + l[i].2 ≤ sizes l := by
  have h := congrArg sizes (List.take_append_drop (i + 1) l)
  rw [List.take_succ_eq_append_getElem hi] at h
  simp only [sizes, List.map_append, List.sum_append, List.map_cons, List.map_nil, List.sum_cons, List.sum_nil] at h ⊢
  omega
def Fits (l : List (Nat × Nat)) : Prop := (∀ p ∈ l, p.1 < 256 ^ p.2 ∧ 1 ≤ p.2 ∧ p.2 ≤ 7) ∧ sizes l ≤ 59
def numsL (l : List (Nat × Nat)) : List Int := l.map fun p => (p.1 : Int)
def sizesL (l : List (Nat × Nat)) : List Int := l.map fun p => (p.2 : Int)
theorem numsL_get {l : List (Nat × Nat)} {i : Nat} (h : i < l.length) : (ints (numsL l))[i]? = some (.int .i64 (l[i].1 : Int)) := by
  rw [get_ints (by simpa [numsL] using h)]; simp [numsL]
theorem sizesL_get {l : List (Nat × Nat)} {i : Nat} (h : i < l.length) : (ints (sizesL l))[i]? = some (.int .i64 (l[i].2 : Int)) := by
  rw [get_ints (by simpa [sizesL] using h)]; simp [sizesL]
def sectB (k : Nat) (l : List (Nat × Nat)) : Bk := sealB (padB (lowB k 1 ++ encB l))
theorem sect_pad_len {k : Nat} {l : List (Nat × Nat)} (h : sizes l ≤ 59) : (padB (lowB k 1 ++ encB l)).length = 64 := padB_len (by simp [lowB_len, encB_len]; omega)
theorem sectB_len {k : Nat} {l : List (Nat × Nat)} (h : sizes l ≤ 59) : (sectB k l).length = 64 := sealB_len (sect_pad_len h)
theorem three_new (w : World) (A B C : Obj) : let W := ((w.alloc A).alloc B).alloc C
    W.heap[w.heap.size]? = some A ∧ W.heap[w.heap.size + 1]? = some B ∧ W.heap[w.heap.size + 1 + 1]? = some C ∧ W.heap.size = w.heap.size + 3 ∧ Upd (fun _ => False) w W := by
  refine ⟨?_, ?_, heap_alloc_last _ _ (by simp), by simp, (((Upd.refl _ w).alloc _).alloc _).alloc _⟩
  · rw [Below.heap_alloc _ _ _ (by simp <;> omega), Below.heap_alloc _ _ _ (by simp)]; exact heap_alloc_last w _ rfl
  · rw [Below.heap_alloc _ _ _ (by simp)]; exact heap_alloc_last _ _ (by simp)
end Go.Proofs.YtfhfbpmlnjdfoaaGreatDoor
