/- A log of noughts: Get, All. Logs of noughts: Check, Waits. A cache: load of no entries, whatever the row of them is. A cache that is made of two new devices (lavabolaw14.Made). A cache's numbers and devices; its logs (logs.Open). logs.Open of a cache. -/
import Derived.Test.YtfhfbpmlnjdfoaaGreatDoorA11
import Derived.Test.YtfhfbpmlnjdfoaaGreatDoorA33
import Derived.Test.YtfhfbpmlnjdfoaaGreatDoorA09
import Derived.Test.YtfhfbpmlnjdfoaaGreatDoorA32
import Derived.Deep.LoopGhost
import Derived.Test.YtfhfbpmlnjdfoaaGreatDoorA01
import Derived.Test.YtfhfbpmlnjdfoaaGreatDoorA30
import Derived.Test.YtfhfbpmlnjdfoaaGreatDoorA26
import Derived.Test.YtfhfbpmlnjdfoaaGreatDoorA19
namespace Go.Proofs.YtfhfbpmlnjdfoaaGreatDoor
open Go Go.RowKit
theorem zOneZF : ([Value.int .i64 0, Value.int .i64 0, Value.int .i64 0, Value.int .i64 0, Value.int .i64 0, Value.int .i64 0, Value.int .i64 0, Value.int .i64 0, Value.int .i64 0, Value.int .i64 0, Value.int .i64 0, Value.int .i64 0, Value.int .i64 0].toArray).all (·.oneCell') = true := by simp [Value.oneCell']
set_option maxRecDepth 100000 in
set_option maxHeartbeats 4000000 in
theorem lgetF_z {S : Nat → Prop} {w : World} {l b base n fi : Nat} {F : List Bk} {O : List (Nat × Bk)} {P : List Int} (hl : LogF w l b base n fi) (hd : Dv S w b F O P) (hn : ∀ j, w.heap.size ≤ j → S j) (hSl : ¬ S l) (hN : Nib w)
    (hSN : ¬ S 0) (hbn : base + n ≤ F.length) (hf : ¬ fate P = 1) {an : Nat} (hann : an < n) (hz : curB F O (base + an) = zB) :
    Calls Tryz.prog 158 #[.pointer (some ⟨l, 0, none⟩), .int .i64 (an : Int)] w (GetZ S w b F O P.tail [Value.int .i64 0, Value.int .i64 0, Value.int .i64 0, Value.int .i64 0, Value.int .i64 0, Value.int .i64 0, Value.int .i64 0, Value.int .i64 0, Value.int .i64 0, Value.int .i64 0, Value.int .i64 0, Value.int .i64 0, Value.int .i64 0] 14) := by
  obtain ⟨Z, hZ⟩ : ∃ Z : List Value, Z = [Value.int .i64 0, Value.int .i64 0, Value.int .i64 0, Value.int .i64 0, Value.int .i64 0, Value.int .i64 0, Value.int .i64 0, Value.int .i64 0, Value.int .i64 0, Value.int .i64 0, Value.int .i64 0, Value.int .i64 0, Value.int .i64 0] := ⟨_, rfl⟩
  have hal := allocFail
  rw [← hZ]
  simp only [← hZ] at hal
  have HZZ : Hid (Z = [Value.int .i64 0, Value.int .i64 0, Value.int .i64 0, Value.int .i64 0, Value.int .i64 0, Value.int .i64 0, Value.int .i64 0, Value.int .i64 0, Value.int .i64 0, Value.int .i64 0, Value.int .i64 0, Value.int .i64 0, Value.int .i64 0] ∧ Z.length = 13 ∧ Z.toArray.size = 13 ∧ (Tryz.prog.info? 165).map (·.size) = some Z.toArray.size ∧ (Z.toArray).all (·.oneCell') = true ∧ (Tryz.prog.info? 165).map (·.size) = some Z.length ∧ ∀ u ∈ Z, u.oneCell' = true) := ⟨hZ, by rw [hZ]; rfl, by rw [hZ]; rfl, by rw [hZ]; exact infoFa, by rw [hZ]; exact zOneZF, by rw [hZ]; exact infoFa, by rw [hZ]; intro u hu; simp at hu; subst hu; rfl⟩
  clear hZ
  have hgA : ((w.alloc (.cells Z.toArray 165)).alloc (.cells Z.toArray 165)).heap[w.heap.size]? = some (.cells Z.toArray 165) := by rw [Below.heap_alloc _ _ _ (by simp)]; exact heap_alloc_last w _ rfl
  have hgB : ((w.alloc (.cells Z.toArray 165)).alloc (.cells Z.toArray 165)).heap[w.heap.size + 1]? = some (.cells Z.toArray 165) := heap_alloc_last _ _ (by simp)
  have hu1 : Upd (fun _ => False) w ((w.alloc (.cells Z.toArray 165)).alloc (.cells Z.toArray 165)) := ((Upd.refl _ w).alloc _).alloc _
  have hs1 : ((w.alloc (.cells Z.toArray 165)).alloc (.cells Z.toArray 165)).heap.size = w.heap.size + 2 := by simp
  have hl1 := hl.keep hu1 (fun h => h)
  have hN1 := hN.keep hu1 (fun h => h)
  have hfl := hd.good.fl
  obtain ⟨c0, c1, c2, -, c4, -⟩ := hl1.c
  have hd1 : Dv (fun j => S j ∧ j ≠ w.heap.size ∧ j ≠ w.heap.size + 1) ((w.alloc (.cells Z.toArray 165)).alloc (.cells Z.toArray 165)) b F O P :=
    (((hd.but (Nat.le_refl _)).but (q := w.heap.size + 1) (by omega)).keep hu1 (fun _ _ h => h)).wide (fun j h => ⟨h.1.1, h.1.2, h.2⟩)
  have hn1 : ∀ j, w.heap.size + 2 ≤ j → S j ∧ j ≠ w.heap.size ∧ j ≠ w.heap.size + 1 := fun j hj => ⟨hn j (by omega), by omega, by omega⟩
  have HAS : Hid (S w.heap.size) := hn _ (Nat.le_refl _)
  have hllt := hl.lt
  have HL := Lib.hid (And.intro hl1 (And.intro hN1 (And.intro hu1 (And.intro hd1 (And.intro hn1 (And.intro hSl (And.intro hSN hs1)))))))
  clear hl hd hn hSl hN hSN hl1 hN1 hu1 hd1 hn1
  go_enter Tryz.func158, Tryz.ntmps158
  · have z1 : decide ((an : Int) < 0) = false := by simp
    have z2 : decide ((n : Int) ≤ (an : Int)) = false := by simp; omega
    go_wp2_with (first
      | (refine wpList_allocZ rfl _ rfl _ hal ?_)
      | fail)
    generalize (w.alloc (.cells Z.toArray 165)).alloc (.cells Z.toArray 165) = w1 at *
    obtain ⟨T, hT⟩ : ∃ T : Nat → Prop, T = fun j => S j ∧ j ≠ w.heap.size ∧ j ≠ w.heap.size + 1 := ⟨_, rfl⟩
    obtain ⟨hl1, hN1, hu1, hd1, hn1, hSl, hSN, -⟩ := HL.out
    have hTS : ∀ j, T j → S j := fun j h => by rw [hT] at h; exact h.1
    have hTA : ¬ T w.heap.size := fun h => by rw [hT] at h; exact h.2.1 rfl
    have hTA' : ∀ j, T j → j ≠ w.heap.size := fun j h e => hTA (e ▸ h)
    have hTB : ¬ T (w.heap.size + 1) := fun h => by rw [hT] at h; exact h.2.2 rfl
    have hTl : ¬ T l := fun h => hSl (hTS l h)
    have hTN : ¬ T 0 := fun h => hSN (hTS _ h)
    rw [← hT] at hd1
    replace hn1 : ∀ j, w1.heap.size ≤ j → T j := fun j hj => by rw [hT]; exact hn1 j (by omega)
    have HT := Lib.hid (And.intro hTS (And.intro hTA (And.intro hTB (And.intro hTl (And.intro hTN (And.intro hd1 (And.intro hn1 (And.intro hu1 (And.intro hl1 (And.intro hN1 (And.intro hgA (And.intro hgB hTA'))))))))))))
    have hl1lt := hl1.lt
    clear hT hTS hTA hTB hTl hTN hd1 hn1 hu1 hl1 hN1 hgA hgB hSl hSN hTA' hs1
    go_cut [7, 8] (fun s7 s8 wx => ReadMeet T b F O P (base + an) w1 s7 s8 wx)
    case first =>
      have e1 : IntKind.i64.wrap ((base : Int) + (an : Int)) = ((base + an : Nat) : Int) := IntWalk.i64_in _ (by omega)
      refine wp_region_held_drew (S := fun W => W.cell? ⟨l, 0, none⟩ = some (.pointer (some ⟨b, 0, none⟩)) ∧ W.cell? ⟨l, 1, none⟩ = some (.int .i64 (base : Int))) (by kernel_rfl) (⟨by rw [World.cell?_drew]; exact c0, by rw [World.cell?_drew]; exact c1⟩) (fun hHeld => ?_)
      refine Wl.i [0, 1, 2, 3, 4, 5, 6, 7, 8, 9] ?_; iterate 10 refine Wl.t hHeld ?_
      refine Wl.o ?_
      refine wpAnyH_ready (rs := [10, 14]) (by kernel_rfl) (by simp) ?_
      refine AllReadyH.cons rfl (fun K hK => ?_) (AllReadyH.cons rfl (fun K hK => ?_) AllReadyH.nil)
      · go_simp
        refine (dreadR (HT.out.2.2.2.2.2.1.keep ((Upd.refl (fun _ => False) w1).drew) (fun _ _ h => h)) (HT.out.2.2.2.2.2.2.1) (base + an) (by omega)).mono ?_
        rintro e w7 ⟨z2, cd2, rfl, hz2, hcd2, hz2l, hd7, hu7⟩
        have HZ2 := Lib.hid (And.intro hz2 hcd2)
        clear hz2 hcd2
        refine hK.out _ _ (⟨hu7.cellv hHeld.1 HT.out.2.2.2.1, hu7.cellv hHeld.2 HT.out.2.2.2.1⟩) (fun hHeld2 => ?_)
        clear hK K
        refine Wl.i [11, 12, 13] ?_; iterate 3 refine Wl.t hHeld2 ?_
        refine Wl.o ?_
        refine Wl.r 14 (fun K hK => ?_)
        go_simp
        show K _ (w7.alloc (.cells (bkC zB).toArray 54))
        have hg8 := heap_alloc_last w7 (.cells (bkC zB).toArray 54) rfl
        have hu8 : Upd (fun _ => False) w7 (w7.alloc (.cells (bkC zB).toArray 54)) := (Upd.refl _ _).alloc _
        have hw67 : w1.heap.size ≤ w7.heap.size := hu7.size
        have hd8 := (hd7.but (Nat.le_refl _)).keep hu8 (fun _ _ h => h)
        have hU8 : Upd T w1 (w7.alloc (.cells (bkC zB).toArray 54)) := ((Upd.refl _ w1).drew.trans hu7).trans (hu8.mono (fun _ _ h => h.elim))
        refine hK.out _ _ (⟨hu8.cellv hHeld2.1 (fun h => h), hu8.cellv hHeld2.2 (fun h => h)⟩) (fun hHeld3 => ?_)
        clear hK K
        generalize w7.heap.size = q at *
        generalize w7.alloc (.cells (bkC zB).toArray 54) = w8 at *
        refine Wl.r 15 (fun K hK => ?_)
        rw [if_pos (by rfl)]
        refine wp_store_mid _ _ _ rfl _ _ (List.toArray _) rfl rfl (by rw [bkC_size _ hz2l]; exact there_of_block hg8 (by rw [bkC_size _ zB_len]; exact Nat.le_refl _)) (by rw [bkC_size _ hz2l]; exact sizeBk') (all_oneCell_toArray (bkC_one _)) ?_
        simp only [Act.put, List.setIfInBounds_toArray]
        refine hK.out _ _ (⟨cell_keep_setCells hHeld3.1 (by omega), cell_keep_setCells hHeld3.2 (by omega)⟩) (fun hHeld4 => ?_)
        clear hK K
        refine Wl.r 16 (fun K hK => ?_)
        go_simp
        refine hK.out _ _ (hHeld4) (fun _ => ?_)
        clear hK K
        refine Wl.d ?_
        clear hHeld4 e1
        go_wp2_with fail
        go_meet
        case rel => exact ⟨q, z2, cd2, rfl, rfl, block_setCells hg8 zB_len hz2l, hw67, HZ2.out.1, HZ2.out.2, hz2l, hd8.keep (upd_row w8 q 0 (bkC z2)) (fun j h e => h.2 e), hU8.trans ((upd_row w8 q 0 (bkC z2)).mono (fun j _ e => e ▸ HT.out.2.2.2.2.2.2.1 _ hw67))⟩
      · go_simp
        show K _ (w1.drew.alloc (.cells (bkC zB).toArray 54))
        have hg7 : (w1.drew.alloc (.cells (bkC zB).toArray 54)).heap[w1.heap.size]? = some (.cells (bkC zB).toArray 54) := heap_alloc_last w1.drew _ rfl
        have hu7a : Upd (fun _ => False) w1 (w1.drew.alloc (.cells (bkC zB).toArray 54)) := ((Upd.refl _ w1).drew).alloc _
        have hd7a : Dv (fun j => T j ∧ j ≠ w1.heap.size) (w1.drew.alloc (.cells (bkC zB).toArray 54)) b F O P := (HT.out.2.2.2.2.2.1.but (Nat.le_refl _)).keep hu7a (fun _ _ h => h)
        have hs7a : (w1.drew.alloc (.cells (bkC zB).toArray 54)).heap.size = w1.heap.size + 1 := by simp
        refine hK.out _ _ (⟨hu7a.cellv c0 (fun h => h), hu7a.cellv c1 (fun h => h)⟩) (fun hHeld2 => ?_)
        clear hK K
        generalize w1.drew.alloc (.cells (bkC zB).toArray 54) = w7a at *
        refine Wl.r 10 (fun K hK => ?_)
        go_simp
        refine (dreadR (hd7a) (fun j hj => ⟨HT.out.2.2.2.2.2.2.1 j (by omega), by omega⟩) (base + an) (by omega)).mono ?_
        rintro e w7 ⟨z2, cd2, rfl, hz2, hcd2, hz2l, hd7, hu7⟩
        have HZ2 := Lib.hid (And.intro hz2 hcd2)
        clear hz2 hcd2
        have hg8 := (hu7.block w1.heap.size (lt_of_block hg7) (fun h => h.2 rfl)).trans hg7
        refine hK.out _ _ (⟨hu7.cellv hHeld2.1 (fun h => HT.out.2.2.2.1 h.1), hu7.cellv hHeld2.2 (fun h => HT.out.2.2.2.1 h.1)⟩) (fun hHeld3 => ?_)
        clear hK K
        refine Wl.i [11, 12, 13] ?_; iterate 3 refine Wl.t hHeld3 ?_
        refine Wl.o ?_
        refine Wl.r 15 (fun K hK => ?_)
        rw [if_pos (by rfl)]
        refine wp_store_mid _ _ _ rfl _ _ (List.toArray _) rfl rfl (by rw [bkC_size _ hz2l]; exact there_of_block hg8 (by rw [bkC_size _ zB_len]; exact Nat.le_refl _)) (by rw [bkC_size _ hz2l]; exact sizeBk') (all_oneCell_toArray (bkC_one _)) ?_
        simp only [Act.put, List.setIfInBounds_toArray]
        refine hK.out _ _ (⟨cell_keep_setCells hHeld3.1 (by omega), cell_keep_setCells hHeld3.2 (by omega)⟩) (fun hHeld4 => ?_)
        clear hK K
        refine Wl.r 16 (fun K hK => ?_)
        go_simp
        refine hK.out _ _ (hHeld4) (fun _ => ?_)
        clear hK K
        refine Wl.d ?_
        clear hHeld4 e1
        go_wp2_with fail
        go_meet
        case rel => exact ⟨w1.heap.size, z2, cd2, rfl, rfl, block_setCells hg8 zB_len hz2l, Nat.le_refl _, HZ2.out.1, HZ2.out.2, hz2l, hd7.keep (upd_row w7 w1.heap.size 0 (bkC z2)) (fun j h e => h.2 e), ((hu7a.mono (fun _ _ h => h.elim)).trans (hu7.mono (fun j _ h => h.1))).trans ((upd_row w7 w1.heap.size 0 (bkC z2)).mono (fun j _ e => e ▸ HT.out.2.2.2.2.2.2.1 _ (Nat.le_refl _)))⟩
    case rest =>
      obtain ⟨q, v, cd2, rfl, rfl, hgq, hq, hv, hcd2, hvl, hdx, hux⟩ := hcut
      have hgA := (hux.block _ (lt_of_block HT.out.2.2.2.2.2.2.2.2.2.2.1) HT.out.2.1).trans HT.out.2.2.2.2.2.2.2.2.2.2.1
      have hgB := (hux.block _ (lt_of_block HT.out.2.2.2.2.2.2.2.2.2.2.2.1) HT.out.2.2.1).trans HT.out.2.2.2.2.2.2.2.2.2.2.2.1
      have hlx := HT.out.2.2.2.2.2.2.2.2.1.keep hux HT.out.2.2.2.1
      have hNx := HT.out.2.2.2.2.2.2.2.2.2.1.keep hux HT.out.2.2.2.2.1
      have hUx : Upd S w wc := (HT.out.2.2.2.2.2.2.2.1.mono (fun _ _ h => h.elim)).trans (hux.mono (fun j _ h => HT.out.1 j h))
      have hdT : Dv T wc b F O P.tail := hdx.wide (fun j h => h.1)
      have rq := range_of_block hgq
      have c4' := hlx.c.2.2.2.2.1
      have HQ := Lib.hid (And.intro hdT (And.intro hUx (And.intro hlx (And.intro hNx (And.intro hgA (And.intro hgB (And.intro hvl (And.intro hv hcd2))))))))
      have hqlt := lt_of_block hgq
      have hAlt := lt_of_block hgA
      have hBlt := lt_of_block hgB
      have hllx := hlx.lt
      have rB := range_of_block hgB
      have tA := there_of_block (n := 13) hgA (by rw [HZZ.out.2.2.1]; exact Nat.le_refl _)
      clear hgq hq hv hcd2 hvl hdx hux hlx hNx hUx hdT hgA hgB c0 c1 c2 c4
      have e0 : cd2 = 0 := by rw [HQ.out.2.2.2.2.2.2.2.2, if_neg hf]
      have ez : v = curB F O (base + an) := by rw [HQ.out.2.2.2.2.2.2.2.1, if_neg hf]
      subst e0
      have h0 : v = zB := ez.trans hz
      have hq0 : ∀ W, (Op.equalIn 10000 54 (.agg (bkC v).toArray) (.agg #[.int .u8 0, .int .u8 0, .int .u8 0, .int .u8 0, .int .u8 0, .int .u8 0, .int .u8 0, .int .u8 0, .int .u8 0, .int .u8 0, .int .u8 0, .int .u8 0, .int .u8 0, .int .u8 0, .int .u8 0, .int .u8 0, .int .u8 0, .int .u8 0, .int .u8 0, .int .u8 0, .int .u8 0, .int .u8 0, .int .u8 0, .int .u8 0, .int .u8 0, .int .u8 0, .int .u8 0, .int .u8 0, .int .u8 0, .int .u8 0, .int .u8 0, .int .u8 0, .int .u8 0, .int .u8 0, .int .u8 0, .int .u8 0, .int .u8 0, .int .u8 0, .int .u8 0, .int .u8 0, .int .u8 0, .int .u8 0, .int .u8 0, .int .u8 0, .int .u8 0, .int .u8 0, .int .u8 0, .int .u8 0, .int .u8 0, .int .u8 0, .int .u8 0, .int .u8 0, .int .u8 0, .int .u8 0, .int .u8 0, .int .u8 0, .int .u8 0, .int .u8 0, .int .u8 0, .int .u8 0, .int .u8 0, .int .u8 0, .int .u8 0, .int .u8 0])).run Tryz.prog W = .ok (v == zB) W := eqIn_bk v zB HQ.out.2.2.2.2.2.2.1 zB_len
      have hb0 : (v == zB) = true := by simpa using h0
      have HD : Hid (Dv (fun j => T j ∧ j ≠ w.heap.size) wc b F O P.tail ∧ Upd S w wc) := ⟨(HQ.out.1).wide (fun j h => ⟨h, HT.out.2.2.2.2.2.2.2.2.2.2.2.2 j h⟩), HQ.out.2.1⟩
      clear h0 ez
      go_wp2_with (first
        | (refine wpList_load_mid rfl _ _ rfl _ _ rfl _ _ rq Tryz.underlying54 rfl (sizeBk _ HQ.out.2.2.2.2.2.2.1) ?_)
        | (refine wpList_load_mid rfl _ _ rfl _ _ rfl _ _ rB Tryz.underlying165 rfl HZZ.out.2.2.2.2.2.1 ?_)
        | (refine wpList_store_mid rfl _ _ _ rfl _ _ Z.toArray rfl rfl (by rw [HZZ.out.2.2.1]; exact tA) HZZ.out.2.2.2.1 HZZ.out.2.2.2.2.1 ?_)
        | fail)
      refine bodyPost_ret (results_mid2 rfl _ _ w.heap.size 0 Z _ rfl (World.rangeAt_setCells_same _ _ _ _ (by rw [HZZ.out.2.1]; exact tA)) Tryz.underlying165 rfl HZZ.out.2.2.2.2.2.1) rfl ?_
      exact ⟨rfl, HD.out.1.keep (upd_row _ w.heap.size 0 _) (fun j h e => h.2 e) |>.wide (fun j h => HT.out.1 j h.1), HD.out.2.trans ((upd_row _ w.heap.size 0 _).mono (fun j _ e => e ▸ HAS.out))⟩
set_option maxRecDepth 100000 in
set_option maxHeartbeats 4000000 in
theorem lallF_z {S : Nat → Prop} {w : World} {l b base n fi : Nat} {F : List Bk} {O : List (Nat × Bk)} (hl : LogF w l b base n fi) (hd : Dv S w b F O []) (hn : ∀ j, w.heap.size ≤ j → S j) (hSl : ¬ S l) (hN : Nib w)
    (hSN : ¬ S 0) (hbn : base + n ≤ F.length) (hz : ∀ i, i < n → curB F O (base + i) = zB) :
    Calls Tryz.prog 83 #[.pointer (some ⟨l, 0, none⟩)] w (AllZ S w b F O 0) := by
  have hfl := hd.good.fl
  obtain ⟨-, -, c2, -⟩ := hl.c
  have H := Lib.hid (And.intro hl (And.intro hd (And.intro hn (And.intro hSl (And.intro hN (And.intro hSN hz))))))
  clear hl hd hn hSl hN hSN hz
  go_enter Tryz.func83, Tryz.ntmps83
  go_wp2
  go_step3
  go_wp2
  go_step3
  go_wp2
  go_loopg [4, 5, 15] n (fun gk s4 s5 s15 wr => ∃ i : Nat, i + gk = n ∧ s15 = .int .i64 i ∧ s5 = .int .i64 0 ∧ s4 = .slice none 0 0 ∧ Dv S wr b F O [] ∧ Upd S w wr)
  case atStart => exact ⟨0, by omega, rfl, rfl, rfl, H.out.2.1, Upd.refl _ _⟩
  case round =>
    obtain ⟨i, hi, rfl, rfl, rfl, hd, hU⟩ := hrel
    obtain ⟨hl, -, hn, hSl, hN, hSN, hz⟩ := H.out
    by_cases hlt : i < n
    · have HG := Lib.hid (lgetF_z (hl.keep hU hSl) hd (fun j hj => hn j (Nat.le_trans hU.size hj)) hSl (hN.keep hU hSN) hSN hbn (by decide) hlt (hz i hlt))
      have HU := Lib.hid hU
      have k1 : (i : Int) < (n : Int) := by omega
      clear hl hd hn hSl hN hSN hz hU
      go_wp2_with fail
      refine HG.out.mono ?_
      rintro e w9 ⟨rfl, hd9, hU9⟩
      have H9 := Lib.hid (And.intro hd9 (HU.out.trans hU9))
      clear hd9 hU9 HG
      generalize hZZ : [Value.int .i64 0, Value.int .i64 0, Value.int .i64 0, Value.int .i64 0, Value.int .i64 0, Value.int .i64 0, Value.int .i64 0, Value.int .i64 0, Value.int .i64 0, Value.int .i64 0, Value.int .i64 0, Value.int .i64 0, Value.int .i64 0] = Z at *
      have hsz : Hid ((Tryz.prog.info? 165).map (·.size) = some Z.length ∧ Z.length = 13 ∧ ∀ u ∈ Z, u.oneCell' = true) := by subst hZZ; exact ⟨infoFa, rfl, by intro u hu; simp at hu; subst hu; rfl⟩
      replace hZZ := Lib.hid hZZ
      go_wp2_with (first
        | (refine wpList_store_new rfl _ _ _ rfl _ _ _ rfl rfl (by rw [hsz.out.2.1]; rfl) hsz.out.1 hsz.out.2.2 ?_)
        | fail)
      obtain ⟨hd9, hU9⟩ := H9.out
      have hua : Upd (fun _ => False) w9 (w9.alloc (.cells Z.toArray 165)) := (Upd.refl _ _).alloc _
      have hd10 := hd9.new hua
      have hU10 := hU9.trans (hua.mono (fun _ _ h => h.elim))
      generalize w9.alloc (.cells Z.toArray 165) = w10 at *
      go_roundg (gk - 1)
      case measure => omega
      case rel => exact ⟨i + 1, by omega, by go_num, rfl, rfl, hd10, hU10⟩
    · obtain rfl : i = n := by omega
      have k1 : ¬ ((i : Int) < (i : Int)) := by omega
      have HE := Lib.hid (And.intro hd hU)
      clear hl hd hn hSl hN hSN hz hU
      go_wp2_with fail
      try rw [Exit.noGoto_ret]
      go_ret2
      exact ⟨rfl, HE.out.1, HE.out.2⟩
structure LgsZ (S : Nat → Prop) (w : World) (li lc lf d base k : Nat) (F : List Bk) (O : List (Nat × Bk)) : Prop where
  i : LogI w li d base k 140
  c : LogC w lc d (base + k) k 144
  f : LogF w lf d (base + k + k) k 148
  dv : Dv S w d F O []
  fl : base + k + k + k ≤ F.length
  nS : ∀ j, w.heap.size ≤ j → S j
  iS : ¬ S li
  cS : ¬ S lc
  fS : ¬ S lf
  nib : Nib w
  nibS : ¬ S 0
  zs : ∀ j, j < k + k + k → curB F O (base + j) = zB
section
variable {S : Nat → Prop} {w w' : World} {li lc lf d base k : Nat} {F : List Bk} {O : List (Nat × Bk)}
theorem LgsZ.turn (h : LgsZ S w li lc lf d base k F O) (hu : Upd S w w') (hd : Dv S w' d F O []) : LgsZ S w' li lc lf d base k F O :=
  { h with i := h.i.keep hu h.iS, c := h.c.keep hu h.cS, f := h.f.keep hu h.fS, dv := hd, nS := fun j hj => h.nS j (Nat.le_trans hu.size hj), nib := h.nib.keep hu h.nibS }
theorem LgsZ.allI (h : LgsZ S w li lc lf d base k F O) : Calls Tryz.prog 81 #[.pointer (some ⟨li, 0, none⟩)] w (AllZ S w d F O 0) :=
  lallI_z h.i h.dv h.nS h.iS h.nib h.nibS (by have := h.fl; omega) (fun i hi => h.zs i (by omega))
theorem LgsZ.allC (h : LgsZ S w li lc lf d base k F O) : Calls Tryz.prog 82 #[.pointer (some ⟨lc, 0, none⟩)] w (AllZ S w d F O 0) :=
  lallC_z h.c h.dv h.nS h.cS h.nib h.nibS (by have := h.fl; omega) (fun i hi => by have := h.zs (k + i) (by omega); rwa [← Nat.add_assoc] at this)
theorem LgsZ.allF (h : LgsZ S w li lc lf d base k F O) : Calls Tryz.prog 83 #[.pointer (some ⟨lf, 0, none⟩)] w (AllZ S w d F O 0) :=
  lallF_z h.f h.dv h.nS h.fS h.nib h.nibS (by have := h.fl; omega) (fun i hi => by have := h.zs (k + k + i) (by omega); rwa [← Nat.add_assoc, ← Nat.add_assoc] at this)
theorem LgsZ.box (h : LgsZ S w li lc lf d base k F O) (hu : Upd (fun _ => False) w w') : LgsZ (fun j => (S j ∧ j < w.heap.size) ∨ w'.heap.size ≤ j) w' li lc lf d base k F O where
  i := h.i.keep hu (fun h => h)
  c := h.c.keep hu (fun h => h)
  f := h.f.keep hu (fun h => h)
  dv := (h.dv.shrink (T := fun j => S j ∧ j < w.heap.size) (fun j h1 h2 => ⟨h1, h2⟩)).keep hu (fun _ _ h => h) |>.wide (fun j h => .inl h)
  fl := h.fl
  nS := fun j hj => .inr hj
  iS := fun h' => by have := h.i.lt; have := hu.size; rcases h' with h' | h'; exact h.iS h'.1; omega
  cS := fun h' => by have := h.c.lt; have := hu.size; rcases h' with h' | h'; exact h.cS h'.1; omega
  fS := fun h' => by have := h.f.lt; have := hu.size; rcases h' with h' | h'; exact h.fS h'.1; omega
  nib := h.nib.keep hu (fun h => h)
  nibS := fun h' => by have := h.nib.lt; have := hu.size; rcases h' with h' | h'; exact h.nibS h'.1; omega
  zs := h.zs
theorem LgsZ.back {w1 : World} (h : LgsZ S w li lc lf d base k F O) (hu1 : Upd (fun _ => False) w w1) (hd : Dv (fun j => (S j ∧ j < w.heap.size) ∨ w1.heap.size ≤ j) w' d F O []) (hu : Upd (fun j => (S j ∧ j < w.heap.size) ∨ w1.heap.size ≤ j) w1 w') : Dv S w' d F O [] ∧ Upd S w w' := by
  have hs := hu1.size
  exact ⟨hd.wide (fun j h' => h'.elim (fun h => h.1) (fun h' => h.nS j (by omega))), (hu1.mono (fun _ _ h => h.elim)).new hu (fun i hi h' => h'.elim (fun h => h.1) (fun h' => by omega))⟩
def ZOut (S : Nat → Prop) (w : World) (d : Nat) (F : List Bk) (O : List (Nat × Bk)) (v : Value) (e : Ending) (w' : World) : Prop := e = .returned v ∧ Dv S w' d F O [] ∧ Upd S w w'
set_option maxRecDepth 100000 in
theorem check_zero (h : LgsZ S w li lc lf d base k F O) : Calls Tryz.prog 24 #[.agg #[.pointer (some ⟨li, 0, none⟩), .pointer (some ⟨lc, 0, none⟩), .pointer (some ⟨lf, 0, none⟩)]] w (ZOut S w d F O (.int .i64 0)) := by
  obtain ⟨w1, hw1⟩ : ∃ w1, w1 = w.alloc (.cells #[.pointer (some ⟨li, 0, none⟩), .pointer (some ⟨lc, 0, none⟩), .pointer (some ⟨lf, 0, none⟩)] 67) := ⟨_, rfl⟩
  have hu1 : Upd (fun _ => False) w w1 := by rw [hw1]; exact (Upd.refl _ w).alloc _
  have g1 : w1.heap[w.heap.size]? = some (.cells #[.pointer (some ⟨li, 0, none⟩), .pointer (some ⟨lc, 0, none⟩), .pointer (some ⟨lf, 0, none⟩)] 67 (0, 0)) := by rw [hw1]; exact heap_alloc_last w _ rfl
  have h1 := h.box hu1
  obtain ⟨T, hT⟩ : ∃ T : Nat → Prop, T = fun j => (S j ∧ j < w.heap.size) ∨ w1.heap.size ≤ j := ⟨_, rfl⟩
  rw [← hT] at h1
  have hTq : ¬ T w.heap.size := by rw [hT]; have := lt_of_block g1; rintro (h | h) <;> omega
  have H := Lib.hid (And.intro h (And.intro hu1 (And.intro h1 (And.intro hT (And.intro hTq g1)))))
  have HW := Lib.hid hw1
  have c0 := cell_of_block g1 0
  have HI := Lib.hid h1.allI
  clear h hu1 h1 hT hTq hw1 g1
  go_enter Tryz.func24, Tryz.ntmps24
  go_wp2_with fail
  rw [← HW.out]
  refine HI.out.mono ?_
  rintro e w2 ⟨rfl, hd2, hu2⟩
  have h2 := H.out.2.2.1.turn hu2 hd2
  have c1 := cell_of_block ((hu2.block _ (lt_of_block H.out.2.2.2.2.2) H.out.2.2.2.2.1).trans H.out.2.2.2.2.2) 1
  have HC := Lib.hid h2.allC
  have H2 := Lib.hid (And.intro h2 hu2)
  clear h2 hd2 hu2 HI c0
  go_wp2_with fail
  refine HC.out.mono ?_
  rintro e w3 ⟨rfl, hd3, hu3⟩
  have h3 := H2.out.1.turn hu3 hd3
  have hu13 := H2.out.2.trans hu3
  have c2 := cell_of_block ((hu13.block _ (lt_of_block H.out.2.2.2.2.2) H.out.2.2.2.2.1).trans H.out.2.2.2.2.2) 2
  have HF := Lib.hid h3.allF
  have H3 := Lib.hid hu13
  clear h3 hd3 hu3 hu13 HC c1
  go_wp2_with fail
  refine HF.out.mono ?_
  rintro e w4 ⟨rfl, hd4, hu4⟩
  have hu14 := H3.out.trans hu4
  rw [H.out.2.2.2.1] at hd4 hu14
  have HE := Lib.hid (H.out.1.back H.out.2.1 hd4 hu14)
  clear hd4 hu4 hu14 HF c2
  go_wp2
  go_ret
  exact ⟨rfl, HE.out.1, HE.out.2⟩
set_option maxRecDepth 100000 in
theorem gatherC_zero (h : LgsZ S w li lc lf d base k F O) (m : Value) (hm : ∃ mb, m = .map (some mb)) : Calls Tryz.prog 149 #[.pointer (some ⟨lc, 0, none⟩), m, .func (.func 150) #[] #[]] w (ZOut S w d F O (.int .i64 0)) := by
  have HA := Lib.hid h.allC
  obtain ⟨mb, rfl⟩ := hm
  clear h
  go_enter Tryz.func149, Tryz.ntmps149
  go_wp2_with fail
  refine HA.out.mono ?_
  rintro e w2 ⟨rfl, hd2, hu2⟩
  have H2 := Lib.hid (And.intro hd2 hu2)
  clear hd2 hu2 HA
  go_wp2_with fail
  go_loopg [21] 0 (fun gk s21 wr => s21 = .int .i64 0 ∧ wr = w2)
  case atStart => exact ⟨rfl, rfl⟩
  case round =>
    obtain ⟨rfl, hw⟩ := hrel
    rw [hw]
    clear hw
    go_wp2_with fail
    go_ret
    exact ⟨rfl, H2.out.1, H2.out.2⟩
set_option maxRecDepth 100000 in
theorem gatherF_zero (h : LgsZ S w li lc lf d base k F O) (m : Value) (hm : ∃ mb, m = .map (some mb)) : Calls Tryz.prog 151 #[.pointer (some ⟨lf, 0, none⟩), m, .func (.func 152) #[] #[]] w (ZOut S w d F O (.int .i64 0)) := by
  have HA := Lib.hid h.allF
  obtain ⟨mb, rfl⟩ := hm
  clear h
  go_enter Tryz.func151, Tryz.ntmps151
  go_wp2_with fail
  refine HA.out.mono ?_
  rintro e w2 ⟨rfl, hd2, hu2⟩
  have H2 := Lib.hid (And.intro hd2 hu2)
  clear hd2 hu2 HA
  go_wp2_with fail
  go_loopg [21] 0 (fun gk s21 wr => s21 = .int .i64 0 ∧ wr = w2)
  case atStart => exact ⟨rfl, rfl⟩
  case round =>
    obtain ⟨rfl, hw⟩ := hrel
    rw [hw]
    clear hw
    go_wp2_with fail
    go_ret
    exact ⟨rfl, H2.out.1, H2.out.2⟩
set_option maxRecDepth 100000 in
theorem waits_zero (h : LgsZ S w li lc lf d base k F O) : Calls Tryz.prog 78 #[.agg #[.pointer (some ⟨li, 0, none⟩), .pointer (some ⟨lc, 0, none⟩), .pointer (some ⟨lf, 0, none⟩)]] w (ZOut S w d F O (.tuple #[.slice none 0 0, .int .i64 0])) := by
  have hmm := @run_makeMap Tryz.prog
  obtain ⟨w1, hw1⟩ : ∃ w1, w1 = w.alloc (.cells #[.pointer (some ⟨li, 0, none⟩), .pointer (some ⟨lc, 0, none⟩), .pointer (some ⟨lf, 0, none⟩)] 67) := ⟨_, rfl⟩
  have hu1 : Upd (fun _ => False) w w1 := by rw [hw1]; exact (Upd.refl _ w).alloc _
  have g1 : w1.heap[w.heap.size]? = some (.cells #[.pointer (some ⟨li, 0, none⟩), .pointer (some ⟨lc, 0, none⟩), .pointer (some ⟨lf, 0, none⟩)] 67 (0, 0)) := by rw [hw1]; exact heap_alloc_last w _ rfl
  have h1 := h.box hu1
  obtain ⟨T, hT⟩ : ∃ T : Nat → Prop, T = fun j => (S j ∧ j < w.heap.size) ∨ w1.heap.size ≤ j := ⟨_, rfl⟩
  rw [← hT] at h1
  have hTq : ¬ T w.heap.size := by rw [hT]; have := lt_of_block g1; rintro (h | h) <;> omega
  have hTn : ∀ j, w1.heap.size ≤ j → T j := fun j hj => by rw [hT]; exact .inr hj
  have H := Lib.hid (And.intro h (And.intro hu1 (And.intro h1 (And.intro hT (And.intro hTq (And.intro g1 hTn))))))
  have HW := Lib.hid hw1
  have c0 := cell_of_block g1 0
  have HI := Lib.hid h1.allI
  clear h hu1 h1 hT hTq hw1 g1 hTn
  go_enter Tryz.func78, Tryz.ntmps78
  go_wp2_with fail
  rw [← HW.out]
  refine HI.out.mono ?_
  rintro e w2 ⟨rfl, hd2, hu2⟩
  obtain ⟨w3, hw3⟩ : ∃ w3, w3 = w2.alloc (.map #[] 0) := ⟨_, rfl⟩
  have hu3 : Upd T w2 w3 := by rw [hw3]; exact ((Upd.refl _ w2).alloc _)
  have h3 := (H.out.2.2.1.turn hu2 hd2).turn hu3 (hd2.new (by rw [hw3]; exact ((Upd.refl _ w2).alloc _)))
  have hu13 := hu2.trans hu3
  have c1 := cell_of_block ((hu13.block _ (lt_of_block H.out.2.2.2.2.2.1) H.out.2.2.2.2.1).trans H.out.2.2.2.2.2.1) 1
  have HC := Lib.hid (gatherC_zero h3 (.map (some w2.heap.size)) ⟨_, rfl⟩)
  have H3 := Lib.hid (And.intro h3 hu13)
  have HW3 := Lib.hid hw3
  rw [hw3] at c1
  clear h3 hd2 hu2 hu3 hu13 HI c0 hw3
  go_wp2_with fail
  rw [← HW3.out]
  refine HC.out.mono ?_
  rintro e w4 ⟨rfl, hd4, hu4⟩
  have h4 := H3.out.1.turn hu4 hd4
  have hu14 := H3.out.2.trans hu4
  have c2 := cell_of_block ((hu14.block _ (lt_of_block H.out.2.2.2.2.2.1) H.out.2.2.2.2.1).trans H.out.2.2.2.2.2.1) 2
  have HF := Lib.hid (gatherF_zero h4 (.map (some w2.heap.size)) ⟨_, rfl⟩)
  have H4 := Lib.hid hu14
  clear h4 hd4 hu4 hu14 HC c1
  go_wp2_with fail
  refine HF.out.mono ?_
  rintro e w5 ⟨rfl, hd5, hu5⟩
  have hu15 := H4.out.trans hu5
  rw [H.out.2.2.2.1] at hd5 hu15
  have HE := Lib.hid (H.out.1.back H.out.2.1 hd5 hu15)
  clear hd5 hu5 hu15 HF c2
  go_wp2_with fail
  go_loopg [9, 38] 0 (fun gk s9 s38 wr => s9 = .slice none 0 0 ∧ s38 = .int .i64 0 ∧ wr = w5)
  case atStart => exact ⟨rfl, rfl, rfl⟩
  case round =>
    obtain ⟨rfl, rfl, hw⟩ := hrel
    rw [hw]
    clear hw
    go_wp2_with fail
    go_ret2
    exact ⟨rfl, HE.out.1, HE.out.2⟩
end
section
variable {own own' : Nat → Nat} {w w' : World} {c : Nat} {n : CaN} {p : CaP} {a : CaS}
set_option maxRecDepth 100000 in
theorem load_emp (h : CaAt own w c n p a) (ao : Option Addr) (cap : Nat) : Calls Tryz.prog 136 #[ptr c, .slice ao 0 cap] w (LoadOut own w c n p a) := by
  have hs2 := h.ok.s2
  obtain ⟨s0, s1, s2, s3, s4, s5, s6⟩ := h.sup
  have HC := Lib.hid h
  clear h s0 s1 s3 s4 s5 s6
  go_enter Tryz.func136, Tryz.ntmps136
  go_wp2_with fail
  go_loopw [5, 15] (fun _ s15 wr => ∃ k own1, k ≤ n.sl ∧ s15 = .int .i64 (k : Int) ∧ CaAt own1 wr c n p { a with G := anyTo a.G k } ∧ Did own own1 w wr) (fun _ s15 _ => n.sl - (intOf s15).toNat)
  case atStart => exact ⟨0, own, Nat.zero_le _, rfl, by rw [anyTo_zero]; exact HC.out, Did.refl HC.out.far⟩
  case round =>
    obtain ⟨k, own1, hk, rfl, hca, hdid⟩ := hrel
    by_cases hlt : k < n.sl
    · obtain ⟨d0, d1, d2, d3, d4, d5, d6, d7, d8⟩ := hca.cells
      have HP := Lib.hid (ca_lput hca k hlt (-1) (.inl rfl))
      have HD := Lib.hid hdid
      clear hca hdid d0 d1 d2 d3 d4 d5 d7 d8 s2
      go_wp2_with fail
      refine HP.out.mono ?_
      rintro e w1 ⟨rfl, own2, hca2, hdid2⟩
      have HE := Lib.hid (And.intro hca2 hdid2)
      clear hca2 hdid2
      go_wp2
      go_roundw
      case rel =>
        refine ⟨k + 1, own2, by omega, by go_num, ?_, HD.out.trans HE.out.2⟩
        have := HE.out.1
        simp only [anyTo_step (show k < a.G.length by rw [HC.out.Gl]; exact hlt)] at this
        exact this
      case measure => simp [intOf]; omega
    · obtain rfl : k = n.sl := by omega
      have HD := Lib.hid (And.intro hca hdid)
      clear hca hdid s2
      go_wp2
      go_loopw [27] (fun s27 wr' => s27 = .int .i64 0 ∧ wr' = wr) (fun _ _ => 0)
      case atStart => exact ⟨rfl, rfl⟩
      case round =>
        obtain ⟨rfl, rfl⟩ := hrel
        go_wp2
        go_ret
        refine ⟨rfl, own1, ?_, HD.out.2⟩
        have := HD.out.1
        rw [← HC.out.Gl, anyTo_all, HC.out.Gl] at this
        exact this
end
theorem wrsR_go (F : List Bk) (L : List (Nat × Bk)) : ∀ O, wrsR F L O [] = ⟨F, O ++ L, [], 0⟩ := by
  induction L with
  | nil => intro O; simp [wrsR]
  | cons x L ih =>
    intro O
    have e : writeR F O [] x.1 x.2 = ⟨F, O ++ [(x.1, x.2)], [], 0⟩ := rfl
    rw [wrsR_yes (by rw [e]), e, ih]
    simp
theorem visTo_none {qs : List (Int × Bool)} {fr : Nat} (h : ∀ k : Nat, qs[k]?.getD (-1, false) = (-1, false)) : ∀ m, visTo qs fr m = []
  | 0 => rfl
  | m + 1 => by simp only [visTo, visAt]; rw [visTo_none h m, if_pos (h m)]; rfl
theorem ckpt_new {n : CaN} {a : CaS} (hb : a.bP = []) (hd : a.dP = []) (hps : a.ps = List.replicate n.bl (-1, false)) : a.ckpt n = (ckpS n a [], 0) := by
  have he : a.ents n = [] := by
    unfold CaS.ents
    rw [show vis (spanL a.ps 0 n.bl) 0 = [] from visTo_none (fun k => by
      rw [hps]
      unfold spanL
      rw [List.drop_zero, List.getElem?_take]
      split
      · rw [List.getElem?_replicate]; split <;> rfl
      · rfl) _]
    rfl
  obtain ⟨wh, dF, dO, dP, bF, bO, bP, cov, next, W, iN, ps, st, G, kN, K, A, H, mN, sums⟩ := a
  simp only at hb hd
  subst hb hd
  have hs : ∀ (F : List Bk) (L : List (Nat × Bk)), saveR F [] [] L = ⟨flushF F L, [], [], 0⟩ := fun F L => by
    unfold saveR
    rw [wrsR_go]
    rfl
  have h1 : ((CaS.mk wh dF dO [] bF bO [] cov next W iN ps st G kN K A H mN sums).fb.fd.svR n) = ⟨flushF (flushF dF dO) (ckO (1 + (1 - wh) * n.pa) n.pa (pagesB (next - 1) [])), [], [], 0⟩ := by
    show saveR (flushF dF dO) [] [] (ckO (1 + (1 - wh) * n.pa) n.pa (pagesB (next - 1) ((CaS.mk wh dF dO [] bF bO [] cov next W iN ps st G kN K A H mN sums).ents n))) = _
    rw [he, hs]
  unfold CaS.ckpt
  rw [if_neg (by exact fun h => h rfl), if_neg (by exact fun h => h rfl), if_neg (by rw [h1]; exact fun h => h rfl)]
  unfold CaS.ckd
  rw [h1]
  rfl
section
variable {own own' : Nat → Nat} {w w' : World} {c : Nat} {n : CaN} {p : CaP} {a : CaS}
theorem cdevs (h : CaAt own w c n p a) : Calls Tryz.prog 91 #[ptr c] w fun e w' => e = .returned (.tuple #[ptr p.ssd, ptr p.back]) ∧ Upd (fun _ => False) w w' := by
  obtain ⟨c14, c15, -⟩ := h.cells
  clear h
  go_enter Tryz.func91, Tryz.ntmps91
  go_wp2
  go_quiet (fail)
  have hu : Upd (fun _ => False) w (w.drewN nq) := (Upd.refl _ w).drewN nq
  generalize w.drewN nq = w2 at *
  go_wp2
  go_ret2
  exact ⟨rfl, hu⟩
theorem C_one (n : CaN) : ∀ v ∈ n.C, v.oneCell' = true := by
  intro v hv
  simp only [CaN.C, List.mem_cons, List.not_mem_nil, or_false] at hv
  rcases hv with rfl | rfl | rfl | rfl | rfl | rfl | rfl <;> rfl
theorem lay_one (sl jo pa lo : Nat) : ∀ v ∈ layC sl jo pa lo, v.oneCell' = true := by
  intro v hv
  simp only [List.mem_cons, List.not_mem_nil, or_false] at hv
  rcases hv with rfl | rfl | rfl | rfl | rfl | rfl | rfl <;> rfl
set_option maxRecDepth 100000 in
theorem csuper (h : CaAt own w c n p a) : Calls Tryz.prog 25 #[ptr c] w fun e w' => e = .returned (.agg n.C.toArray) ∧ Below w.heap.size w w' := by
  obtain ⟨U, hU⟩ : ∃ U, U = n.C := ⟨_, rfl⟩
  have hr : w.rangeAt c 0 U := fun j v hv => by
    have := range_of_block h.str j v (by rw [caC, List.getElem?_append_left (by have := (List.getElem?_eq_some_iff.1 hv).1; rw [hU] at this; exact this), ← hU]; exact hv)
    exact this
  have hU7 : U.length = 7 := by rw [hU]; rfl
  have hs : (Tryz.prog.info? 40).map (·.size) = some U.length := by rw [hU7]; exact infoSup
  have h1 : ∀ v ∈ U, v.oneCell' = true := by rw [hU]; exact C_one n
  have hc := World.rangeAt_alloc hr (.cells U.toArray 40)
  rw [← hU]
  have H := Lib.hid (And.intro hs (And.intro h1 hU7))
  clear h hU hs h1 hU7
  go_enter Tryz.func25, Tryz.ntmps25
  go_wp2_with (first
    | (refine wpList_load_mid rfl _ _ rfl _ _ rfl _ _ (World.rangeAt_alloc hr _) Tryz.underlying40 rfl H.out.1 ?_)
    | (refine wpList_store_new rfl _ _ _ rfl _ _ _ rfl rfl (by rw [H.out.2.2]; rfl) H.out.1 H.out.2.1 ?_)
    | fail)
  refine bodyPost_ret (results_mid1 rfl _ _ w.heap.size 0 U _ rfl (range_of_block (heap_alloc_last w _ rfl)) Tryz.underlying40 rfl H.out.1) rfl ⟨rfl, (Below.refl _ w).alloc (Nat.le_refl _) _⟩
set_option maxRecDepth 100000 in
theorem clayout (h : CaAt own w c n p a) : Calls Tryz.prog 34 #[ptr c] w fun e w' => e = .returned (.agg (layC n.sl n.jo n.pa n.lo).toArray) ∧ Below w.heap.size w w' := by
  obtain ⟨U, hU⟩ : ∃ U, U = layC n.sl n.jo n.pa n.lo := ⟨_, rfl⟩
  have hU7 : U.length = 7 := by rw [hU]; rfl
  have hr : w.rangeAt c 7 U := fun j v hv => by
    have := range_of_block h.str (7 + j) v (by
      rw [caC, List.getElem?_append_right (by show (7 : Nat) ≤ 7 + j; omega), show 7 + j - n.C.length = j by show 7 + j - 7 = j; omega, List.getElem?_append_left (by have := (List.getElem?_eq_some_iff.1 hv).1; rw [hU] at this; exact this), ← hU]; exact hv)
    rw [Nat.zero_add] at this
    exact this
  have hs : (Tryz.prog.info? 43).map (·.size) = some U.length := by rw [hU7]; exact infoLay
  have h1 : ∀ v ∈ U, v.oneCell' = true := by rw [hU]; exact lay_one _ _ _ _
  rw [← hU]
  have H := Lib.hid (And.intro hs (And.intro h1 hU7))
  clear h hU hs h1 hU7
  go_enter Tryz.func34, Tryz.ntmps34
  go_wp2_with (first
    | (refine wpList_load_mid rfl _ _ rfl _ _ rfl _ _ (World.rangeAt_alloc hr _) Tryz.underlying43 rfl H.out.1 ?_)
    | (refine wpList_store_new rfl _ _ _ rfl _ _ _ rfl rfl (by rw [H.out.2.2]; rfl) H.out.1 H.out.2.1 ?_)
    | fail)
  refine bodyPost_ret (results_mid1 rfl _ _ w.heap.size 0 U _ rfl (range_of_block (heap_alloc_last w _ rfl)) Tryz.underlying43 rfl H.out.1) rfl ⟨rfl, (Below.refl _ w).alloc (Nat.le_refl _) _⟩
end
def OpOut (w : World) (n : CaN) (d : Nat) (e : Ending) (w' : World) : Prop :=
  ∃ li lc lf, e = .returned (.tuple #[.agg #[ptr li, ptr lc, ptr lf], .int .i64 0]) ∧ LogI w' li d (1 + 2 * n.pa + n.jo) n.lo 140 ∧ LogC w' lc d (1 + 2 * n.pa + n.jo + n.lo) n.lo 144 ∧
    LogF w' lf d (1 + 2 * n.pa + n.jo + n.lo + n.lo) n.lo 148 ∧ (w.heap.size ≤ li ∧ w.heap.size ≤ lc ∧ w.heap.size ≤ lf) ∧ Below w.heap.size w w'
theorem field_lo (n : CaN) (w : World) : (Instr.field 40 (.agg n.C.toArray) 5).run Tryz.prog w = .ok (.int .i64 (n.lo : Int)) w := by kernel_rfl
section
variable {own own' : Nat → Nat} {w w' : World} {c : Nat} {n : CaN} {p : CaP} {a : CaS}
set_option maxRecDepth 100000 in
set_option maxHeartbeats 1000000 in
theorem lopen (h : CaAt own w c n p a) : Calls Tryz.prog 76 #[ptr c] w (OpOut w n p.ssd) := by
  obtain ⟨V, hV⟩ : ∃ V, V = layC n.sl n.jo n.pa n.lo := ⟨_, rfl⟩
  obtain ⟨w1, hw1⟩ : ∃ w1, w1 = w.alloc (.cells #[.pointer none, .pointer none, .pointer none] 67) := ⟨_, rfl⟩
  have hu1 : Upd (fun _ => False) w w1 := by rw [hw1]; exact (Upd.refl _ w).alloc _
  have h1 := h.new hu1
  have hg1 : w1.heap[w.heap.size]? = some (.cells #[.pointer none, .pointer none, .pointer none] 67 (0, 0)) := by rw [hw1]; exact heap_alloc_last w _ rfl
  have H1 := Lib.hid (And.intro h1 (And.intro hu1 (And.intro hg1 hV)))
  have hC := Lib.hid (cdevs h1)
  have HW1 := Lib.hid hw1
  have HO := Lib.hid h.ok
  clear h h1 hu1 hw1 hV hg1
  go_enter Tryz.func76, Tryz.ntmps76
  go_wp2_with fail
  rw [← HW1.out]
  refine hC.out.mono ?_
  rintro e w2 ⟨rfl, hu2⟩
  have h2 := H1.out.1.new hu2
  have H2 := Lib.hid (And.intro h2 hu2)
  have hL := clayout h2
  rw [← H1.out.2.2.2] at hL
  have HL := Lib.hid hL
  clear h2 hu2 hL
  go_wp2_with fail
  refine HL.out.mono ?_
  rintro e w3 ⟨rfl, hb3⟩
  have hu3 : Upd (fun _ => False) w2 w3 := Upd.of_below hb3
  have h3 := H2.out.1.new hu3
  have H3 := Lib.hid (And.intro h3 hu3)
  have HS := Lib.hid (csuper h3)
  clear h3 hu3 hb3
  go_wp2_with fail
  refine HS.out.mono ?_
  rintro e w4 ⟨rfl, hb4⟩
  have hu4 : Upd (fun _ => False) w3 w4 := Upd.of_below hb4
  clear hb4
  obtain ⟨w5, hw5⟩ : ∃ w5, w5 = w4.alloc (.cells V.toArray 43) := ⟨_, rfl⟩
  have hu5 : Upd (fun _ => False) w4 w5 := by rw [hw5]; exact (Upd.refl _ w4).alloc _
  have hg5 : w5.heap[w4.heap.size]? = some (.cells V.toArray 43) := by rw [hw5]; exact heap_alloc_last w4 _ rfl
  have hVl : V.length = 7 := by rw [H1.out.2.2.2]; rfl
  have hV1 : ∀ v ∈ V, v.oneCell' = true := by rw [H1.out.2.2.2]; exact lay_one _ _ _ _
  have hsV : Hid ((Tryz.prog.info? 43).map (·.size) = some V.length) := by show _ = _; rw [hVl]; exact infoLay
  have h5 := (H3.out.1.new hu4).new hu5
  have U5 := (((H1.out.2.1.trans H2.out.2).trans H3.out.2).trans hu4).trans hu5
  have g15 := (((H2.out.2.trans H3.out.2).trans hu4).trans hu5).blockv H1.out.2.2.1
  have H5 := Lib.hid (And.intro h5 (And.intro U5 (And.intro hg5 (And.intro hVl (And.intro hV1 g15)))))
  have HW5 := Lib.hid hw5
  have hz : n.size ≤ 4096 := HO.out.z
  have hl1 := HO.out.l1
  have hdl := h5.fl
  have HN := Lib.hid (newI_ok h5.ssd (1 + 2 * n.pa + n.jo) n.lo hl1 (by rw [hdl]; unfold CaN.size; omega) 140)
  have hfd := field_lo n
  clear hu4 hu5 hg5 hVl hV1 h5 U5 g15 hw5 hdl
  go_upto_region 5 with (first
    | (refine wpList_store_new rfl _ _ _ rfl _ _ _ rfl rfl (by rw [H5.out.2.2.2.1]; rfl) hsV.out H5.out.2.2.2.2.1 ?_)
    | fail)
  rw [← HW5.out]
  clear hfd
  have hvc := cell_of_block H5.out.2.2.1
  rw [H1.out.2.2.2] at hvc
  have v2 : w5.cell? ⟨w4.heap.size, 2, none⟩ = some (.int .i64 (1 + 2 * (n.pa : Int) + (n.jo : Int))) := hvc 2
  have e1 : (((1 + 2 * n.pa + n.jo : Nat)) : Int) = 1 + 2 * (n.pa : Int) + (n.jo : Int) := by simp
  rw [e1] at HN
  clear hvc e1
  go_wp2_with fail
  refine HN.out.mono ?_
  rintro e w6 ⟨rfl, hl6, hb6⟩
  have hu6 : Upd (fun _ => False) w5 w6 := Upd.of_below hb6
  have h6 := H5.out.1.new hu6
  have hdl := h6.fl
  have HN := Lib.hid (newC_ok h6.ssd (1 + 2 * n.pa + n.jo + n.lo) n.lo hl1 (by rw [hdl]; unfold CaN.size; omega) 144)
  have H6 := Lib.hid (And.intro h6 (And.intro hl6 hu6))
  have hvc := cell_of_block (hu6.blockv H5.out.2.2.1)
  rw [H1.out.2.2.2] at hvc
  have v3 : w6.cell? ⟨w4.heap.size, 3, none⟩ = some (.int .i64 (1 + 2 * (n.pa : Int) + (n.jo : Int) + (n.lo : Int))) := hvc 3
  have e1 : (((1 + 2 * n.pa + n.jo + n.lo : Nat)) : Int) = 1 + 2 * (n.pa : Int) + (n.jo : Int) + (n.lo : Int) := by simp
  rw [e1] at HN
  clear hvc e1 h6 hl6 hb6 hu6 hdl v2
  go_wp2_with fail
  refine HN.out.mono ?_
  rintro e w7 ⟨rfl, hl7, hb7⟩
  have hu7 : Upd (fun _ => False) w6 w7 := Upd.of_below hb7
  have h7 := H6.out.1.new hu7
  have hdl := h7.fl
  have HN := Lib.hid (newF_ok h7.ssd (1 + 2 * n.pa + n.jo + n.lo + n.lo) n.lo hl1 (by rw [hdl]; unfold CaN.size; omega) 148)
  have H7 := Lib.hid (And.intro hl7 hu7)
  have hvc := cell_of_block ((H6.out.2.2.trans hu7).blockv H5.out.2.2.1)
  rw [H1.out.2.2.2] at hvc
  have v4 : w7.cell? ⟨w4.heap.size, 4, none⟩ = some (.int .i64 (1 + 2 * (n.pa : Int) + (n.jo : Int) + (n.lo : Int) + (n.lo : Int))) := hvc 4
  have e1 : (((1 + 2 * n.pa + n.jo + n.lo + n.lo : Nat)) : Int) = 1 + 2 * (n.pa : Int) + (n.jo : Int) + (n.lo : Int) + (n.lo : Int) := by simp
  rw [e1] at HN
  clear hvc e1 h7 hl7 hb7 hu7 hdl v3
  go_wp2_with fail
  refine HN.out.mono ?_
  rintro e w8 ⟨rfl, hl8, hb8⟩
  have hu8 : Upd (fun _ => False) w7 w8 := Upd.of_below hb8
  have g8 := ((H6.out.2.2.trans H7.out.2).trans hu8).blockv H5.out.2.2.2.2.2
  have c80 := cell_of_block g8 0
  have c81 := cell_of_block g8 1
  have c82 := cell_of_block g8 2
  have f8 := frozen_of_block g8
  have f80 := f8 0
  have f81 := f8 1
  have f82 := f8 2
  have H8 := Lib.hid (And.intro hl8 (And.intro hu8 g8))
  clear hl8 hb8 hu8 g8 f8 v4
  go_wp2
  obtain ⟨hl8, hu8, g8⟩ := H8.out
  have s0 := heap_setCell_same g8 0 (ptr w5.heap.size)
  have s1 := heap_setCell_same s0 1 (ptr w6.heap.size)
  have s2 := heap_setCell_same s1 2 (ptr w7.heap.size)
  have t1 := ((upd_setCell w8 w.heap.size 0 (ptr w5.heap.size)).trans (upd_setCell _ w.heap.size 1 (ptr w6.heap.size))).trans (upd_setCell _ w.heap.size 2 (ptr w7.heap.size))
  have z1 := H1.out.2.1.size
  have z5 := H5.out.2.1.size
  have z6 := H6.out.2.2.size
  have z7 := H7.out.2.size
  have hw : w.heap.size < w5.heap.size := lt_of_block H5.out.2.2.2.2.2
  have li := ((H6.out.2.1.keep H7.out.2 (fun h => h)).keep hu8 (fun h => h)).keep t1 (by omega)
  have lc := (H7.out.1.keep hu8 (fun h => h)).keep t1 (by omega)
  have lf := hl8.keep t1 (by omega)
  refine bodyPost_ret (results_mid2 rfl _ _ w.heap.size 0 [ptr w5.heap.size, ptr w6.heap.size, ptr w7.heap.size] _ rfl (range_of_block s2) Tryz.underlying67 rfl (by kernel_rfl)) rfl ⟨w5.heap.size, w6.heap.size, w7.heap.size, rfl, li, lc, lf, ⟨by omega, by omega, by omega⟩, ?_⟩
  exact Upd.below ((((H5.out.2.1.trans H6.out.2.2).trans H7.out.2).trans hu8).new t1 (fun i hi e => by omega))
end
end Go.Proofs.YtfhfbpmlnjdfoaaGreatDoor
