/- A log of noughts: Get, All. What a function answers that is handed in (guard), for a log's things. A log: number, New, Len. -/
import Derived.Test.YtfhfbpmlnjdfoaaGreatDoorA11
import Derived.Test.YtfhfbpmlnjdfoaaGreatDoorA32
import Derived.Test.YtfhfbpmlnjdfoaaGreatDoorA09
import Derived.Deep.LoopGhost
import Derived.Test.YtfhfbpmlnjdfoaaGreatDoorA10
import Derived.Defers
import Derived.Recover
namespace Go.Proofs.YtfhfbpmlnjdfoaaGreatDoor
open Go Go.RowKit
theorem zOneZC : ([Value.int .i64 0, Value.int .i64 0, Value.int .i64 0, Value.int .i64 0, Value.int .i64 0, Value.int .i64 0].toArray).all (·.oneCell') = true := by simp [Value.oneCell']
set_option maxRecDepth 100000 in
set_option maxHeartbeats 4000000 in
theorem lgetC_z {S : Nat → Prop} {w : World} {l b base n fi : Nat} {F : List Bk} {O : List (Nat × Bk)} {P : List Int} (hl : LogC w l b base n fi) (hd : Dv S w b F O P) (hn : ∀ j, w.heap.size ≤ j → S j) (hSl : ¬ S l) (hN : Nib w)
    (hSN : ¬ S 0) (hbn : base + n ≤ F.length) (hf : ¬ fate P = 1) {an : Nat} (hann : an < n) (hz : curB F O (base + an) = zB) :
    Calls Tryz.prog 157 #[.pointer (some ⟨l, 0, none⟩), .int .i64 (an : Int)] w (GetZ S w b F O P.tail [Value.int .i64 0, Value.int .i64 0, Value.int .i64 0, Value.int .i64 0, Value.int .i64 0, Value.int .i64 0] 14) := by
  obtain ⟨Z, hZ⟩ : ∃ Z : List Value, Z = [Value.int .i64 0, Value.int .i64 0, Value.int .i64 0, Value.int .i64 0, Value.int .i64 0, Value.int .i64 0] := ⟨_, rfl⟩
  have hal := allocCert
  rw [← hZ]
  simp only [← hZ] at hal
  have HZZ : Hid (Z = [Value.int .i64 0, Value.int .i64 0, Value.int .i64 0, Value.int .i64 0, Value.int .i64 0, Value.int .i64 0] ∧ Z.length = 6 ∧ Z.toArray.size = 6 ∧ (Tryz.prog.info? 159).map (·.size) = some Z.toArray.size ∧ (Z.toArray).all (·.oneCell') = true ∧ (Tryz.prog.info? 159).map (·.size) = some Z.length ∧ ∀ u ∈ Z, u.oneCell' = true) := ⟨hZ, by rw [hZ]; rfl, by rw [hZ]; rfl, by rw [hZ]; exact infoCe, by rw [hZ]; exact zOneZC, by rw [hZ]; exact infoCe, by rw [hZ]; intro u hu; simp at hu; subst hu; rfl⟩
  clear hZ
  have hgA : ((w.alloc (.cells Z.toArray 159)).alloc (.cells Z.toArray 159)).heap[w.heap.size]? = some (.cells Z.toArray 159) := by rw [Below.heap_alloc _ _ _ (by simp)]; exact heap_alloc_last w _ rfl
  have hgB : ((w.alloc (.cells Z.toArray 159)).alloc (.cells Z.toArray 159)).heap[w.heap.size + 1]? = some (.cells Z.toArray 159) := heap_alloc_last _ _ (by simp)
  have hu1 : Upd (fun _ => False) w ((w.alloc (.cells Z.toArray 159)).alloc (.cells Z.toArray 159)) := ((Upd.refl _ w).alloc _).alloc _
  have hs1 : ((w.alloc (.cells Z.toArray 159)).alloc (.cells Z.toArray 159)).heap.size = w.heap.size + 2 := by simp
  have hl1 := hl.keep hu1 (fun h => h)
  have hN1 := hN.keep hu1 (fun h => h)
  have hfl := hd.good.fl
  obtain ⟨c0, c1, c2, -, c4, -⟩ := hl1.c
  have hd1 : Dv (fun j => S j ∧ j ≠ w.heap.size ∧ j ≠ w.heap.size + 1) ((w.alloc (.cells Z.toArray 159)).alloc (.cells Z.toArray 159)) b F O P :=
    (((hd.but (Nat.le_refl _)).but (q := w.heap.size + 1) (by omega)).keep hu1 (fun _ _ h => h)).wide (fun j h => ⟨h.1.1, h.1.2, h.2⟩)
  have hn1 : ∀ j, w.heap.size + 2 ≤ j → S j ∧ j ≠ w.heap.size ∧ j ≠ w.heap.size + 1 := fun j hj => ⟨hn j (by omega), by omega, by omega⟩
  have HAS : Hid (S w.heap.size) := hn _ (Nat.le_refl _)
  have hllt := hl.lt
  have HL := Lib.hid (And.intro hl1 (And.intro hN1 (And.intro hu1 (And.intro hd1 (And.intro hn1 (And.intro hSl (And.intro hSN hs1)))))))
  clear hl hd hn hSl hN hSN hl1 hN1 hu1 hd1 hn1
  go_enter Tryz.func157, Tryz.ntmps157
  · have z1 : decide ((an : Int) < 0) = false := by simp
    have z2 : decide ((n : Int) ≤ (an : Int)) = false := by simp; omega
    go_wp2_with (first
      | (refine wpList_allocZ rfl _ rfl _ hal ?_)
      | fail)
    generalize (w.alloc (.cells Z.toArray 159)).alloc (.cells Z.toArray 159) = w1 at *
    obtain ⟨T, hT⟩ : ∃ T : Nat → Prop, T = fun j => S j ∧ j ≠ w.heap.size ∧ j ≠ w.heap.size + 1 := ⟨_, rfl⟩
    obtain ⟨hl1, hN1, hu1, hd1, hn1, hSl, hSN, -⟩ := HL.out
    have hTS : ∀ j, T j → S j := fun j h => by rw [hT] at h; exact h.1
    have hTA : ¬ T w.heap.size := fun h => by rw [hT] at h; exact h.2.1 rfl
    have hTA' : ∀ j, T j → j ≠ w.heap.size := fun j h e => hTA (e ▸ h)
    have hTB : ¬ T (w.heap.size + 1) := fun h => by rw [hT] at h; exact h.2.2 rfl
    have hTl : ¬ T l := fun h => hSl (hTS l h)
    have hTN : ¬ T 0 := fun h => hSN (hTS _ h)
    rw [← hT] at hd1
    replace hn1 : ∀ j, w1.heap.size ≤ j → T j := fun j hj => by rw [hT]; exact hn1 j (by omega)
    have HT := Lib.hid (And.intro hTS (And.intro hTA (And.intro hTB (And.intro hTl (And.intro hTN (And.intro hd1 (And.intro hn1 (And.intro hu1 (And.intro hl1 (And.intro hN1 (And.intro hgA (And.intro hgB hTA'))))))))))))
    have hl1lt := hl1.lt
    clear hT hTS hTA hTB hTl hTN hd1 hn1 hu1 hl1 hN1 hgA hgB hSl hSN hTA' hs1
    go_cut [7, 8] (fun s7 s8 wx => ReadMeet T b F O P (base + an) w1 s7 s8 wx)
    case first =>
      have e1 : IntKind.i64.wrap ((base : Int) + (an : Int)) = ((base + an : Nat) : Int) := IntWalk.i64_in _ (by omega)
      refine wp_region_held_drew (S := fun W => W.cell? ⟨l, 0, none⟩ = some (.pointer (some ⟨b, 0, none⟩)) ∧ W.cell? ⟨l, 1, none⟩ = some (.int .i64 (base : Int))) (by kernel_rfl) (⟨by rw [World.cell?_drew]; exact c0, by rw [World.cell?_drew]; exact c1⟩) (fun hHeld => ?_)
      refine Wl.i [0, 1, 2, 3, 4, 5, 6, 7, 8, 9] ?_; iterate 10 refine Wl.t hHeld ?_
      refine Wl.o ?_
      refine wpAnyH_ready (rs := [10, 14]) (by kernel_rfl) (by simp) ?_
      refine AllReadyH.cons rfl (fun K hK => ?_) (AllReadyH.cons rfl (fun K hK => ?_) AllReadyH.nil)
      · go_simp
        refine (dreadR (HT.out.2.2.2.2.2.1.keep ((Upd.refl (fun _ => False) w1).drew) (fun _ _ h => h)) (HT.out.2.2.2.2.2.2.1) (base + an) (by omega)).mono ?_
        rintro e w7 ⟨z2, cd2, rfl, hz2, hcd2, hz2l, hd7, hu7⟩
        have HZ2 := Lib.hid (And.intro hz2 hcd2)
        clear hz2 hcd2
        refine hK.out _ _ (⟨hu7.cellv hHeld.1 HT.out.2.2.2.1, hu7.cellv hHeld.2 HT.out.2.2.2.1⟩) (fun hHeld2 => ?_)
        clear hK K
        refine Wl.i [11, 12, 13] ?_; iterate 3 refine Wl.t hHeld2 ?_
        refine Wl.o ?_
        refine Wl.r 14 (fun K hK => ?_)
        go_simp
        show K _ (w7.alloc (.cells (bkC zB).toArray 54))
        have hg8 := heap_alloc_last w7 (.cells (bkC zB).toArray 54) rfl
        have hu8 : Upd (fun _ => False) w7 (w7.alloc (.cells (bkC zB).toArray 54)) := (Upd.refl _ _).alloc _
        have hw67 : w1.heap.size ≤ w7.heap.size := hu7.size
        have hd8 := (hd7.but (Nat.le_refl _)).keep hu8 (fun _ _ h => h)
        have hU8 : Upd T w1 (w7.alloc (.cells (bkC zB).toArray 54)) := ((Upd.refl _ w1).drew.trans hu7).trans (hu8.mono (fun _ _ h => h.elim))
        refine hK.out _ _ (⟨hu8.cellv hHeld2.1 (fun h => h), hu8.cellv hHeld2.2 (fun h => h)⟩) (fun hHeld3 => ?_)
        clear hK K
        generalize w7.heap.size = q at *
        generalize w7.alloc (.cells (bkC zB).toArray 54) = w8 at *
        refine Wl.r 15 (fun K hK => ?_)
        rw [if_pos (by rfl)]
        refine wp_store_mid _ _ _ rfl _ _ (List.toArray _) rfl rfl (by rw [bkC_size _ hz2l]; exact there_of_block hg8 (by rw [bkC_size _ zB_len]; exact Nat.le_refl _)) (by rw [bkC_size _ hz2l]; exact sizeBk') (all_oneCell_toArray (bkC_one _)) ?_
        simp only [Act.put, List.setIfInBounds_toArray]
        refine hK.out _ _ (⟨cell_keep_setCells hHeld3.1 (by omega), cell_keep_setCells hHeld3.2 (by omega)⟩) (fun hHeld4 => ?_)
        clear hK K
        refine Wl.r 16 (fun K hK => ?_)
        go_simp
        refine hK.out _ _ (hHeld4) (fun _ => ?_)
        clear hK K
        refine Wl.d ?_
        clear hHeld4 e1
        go_wp2_with fail
        go_meet
        case rel => exact ⟨q, z2, cd2, rfl, rfl, block_setCells hg8 zB_len hz2l, hw67, HZ2.out.1, HZ2.out.2, hz2l, hd8.keep (upd_row w8 q 0 (bkC z2)) (fun j h e => h.2 e), hU8.trans ((upd_row w8 q 0 (bkC z2)).mono (fun j _ e => e ▸ HT.out.2.2.2.2.2.2.1 _ hw67))⟩
      · go_simp
        show K _ (w1.drew.alloc (.cells (bkC zB).toArray 54))
        have hg7 : (w1.drew.alloc (.cells (bkC zB).toArray 54)).heap[w1.heap.size]? = some (.cells (bkC zB).toArray 54) := heap_alloc_last w1.drew _ rfl
        have hu7a : Upd (fun _ => False) w1 (w1.drew.alloc (.cells (bkC zB).toArray 54)) := ((Upd.refl _ w1).drew).alloc _
        have hd7a : Dv (fun j => T j ∧ j ≠ w1.heap.size) (w1.drew.alloc (.cells (bkC zB).toArray 54)) b F O P := (HT.out.2.2.2.2.2.1.but (Nat.le_refl _)).keep hu7a (fun _ _ h => h)
        have hs7a : (w1.drew.alloc (.cells (bkC zB).toArray 54)).heap.size = w1.heap.size + 1 := by simp
        refine hK.out _ _ (⟨hu7a.cellv c0 (fun h => h), hu7a.cellv c1 (fun h => h)⟩) (fun hHeld2 => ?_)
        clear hK K
        generalize w1.drew.alloc (.cells (bkC zB).toArray 54) = w7a at *
        refine Wl.r 10 (fun K hK => ?_)
        go_simp
        refine (dreadR (hd7a) (fun j hj => ⟨HT.out.2.2.2.2.2.2.1 j (by omega), by omega⟩) (base + an) (by omega)).mono ?_
        rintro e w7 ⟨z2, cd2, rfl, hz2, hcd2, hz2l, hd7, hu7⟩
        have HZ2 := Lib.hid (And.intro hz2 hcd2)
        clear hz2 hcd2
        have hg8 := (hu7.block w1.heap.size (lt_of_block hg7) (fun h => h.2 rfl)).trans hg7
        refine hK.out _ _ (⟨hu7.cellv hHeld2.1 (fun h => HT.out.2.2.2.1 h.1), hu7.cellv hHeld2.2 (fun h => HT.out.2.2.2.1 h.1)⟩) (fun hHeld3 => ?_)
        clear hK K
        refine Wl.i [11, 12, 13] ?_; iterate 3 refine Wl.t hHeld3 ?_
        refine Wl.o ?_
        refine Wl.r 15 (fun K hK => ?_)
        rw [if_pos (by rfl)]
        refine wp_store_mid _ _ _ rfl _ _ (List.toArray _) rfl rfl (by rw [bkC_size _ hz2l]; exact there_of_block hg8 (by rw [bkC_size _ zB_len]; exact Nat.le_refl _)) (by rw [bkC_size _ hz2l]; exact sizeBk') (all_oneCell_toArray (bkC_one _)) ?_
        simp only [Act.put, List.setIfInBounds_toArray]
        refine hK.out _ _ (⟨cell_keep_setCells hHeld3.1 (by omega), cell_keep_setCells hHeld3.2 (by omega)⟩) (fun hHeld4 => ?_)
        clear hK K
        refine Wl.r 16 (fun K hK => ?_)
        go_simp
        refine hK.out _ _ (hHeld4) (fun _ => ?_)
        clear hK K
        refine Wl.d ?_
        clear hHeld4 e1
        go_wp2_with fail
        go_meet
        case rel => exact ⟨w1.heap.size, z2, cd2, rfl, rfl, block_setCells hg8 zB_len hz2l, Nat.le_refl _, HZ2.out.1, HZ2.out.2, hz2l, hd7.keep (upd_row w7 w1.heap.size 0 (bkC z2)) (fun j h e => h.2 e), ((hu7a.mono (fun _ _ h => h.elim)).trans (hu7.mono (fun j _ h => h.1))).trans ((upd_row w7 w1.heap.size 0 (bkC z2)).mono (fun j _ e => e ▸ HT.out.2.2.2.2.2.2.1 _ (Nat.le_refl _)))⟩
    case rest =>
      obtain ⟨q, v, cd2, rfl, rfl, hgq, hq, hv, hcd2, hvl, hdx, hux⟩ := hcut
      have hgA := (hux.block _ (lt_of_block HT.out.2.2.2.2.2.2.2.2.2.2.1) HT.out.2.1).trans HT.out.2.2.2.2.2.2.2.2.2.2.1
      have hgB := (hux.block _ (lt_of_block HT.out.2.2.2.2.2.2.2.2.2.2.2.1) HT.out.2.2.1).trans HT.out.2.2.2.2.2.2.2.2.2.2.2.1
      have hlx := HT.out.2.2.2.2.2.2.2.2.1.keep hux HT.out.2.2.2.1
      have hNx := HT.out.2.2.2.2.2.2.2.2.2.1.keep hux HT.out.2.2.2.2.1
      have hUx : Upd S w wc := (HT.out.2.2.2.2.2.2.2.1.mono (fun _ _ h => h.elim)).trans (hux.mono (fun j _ h => HT.out.1 j h))
      have hdT : Dv T wc b F O P.tail := hdx.wide (fun j h => h.1)
      have rq := range_of_block hgq
      have c4' := hlx.c.2.2.2.2.1
      have HQ := Lib.hid (And.intro hdT (And.intro hUx (And.intro hlx (And.intro hNx (And.intro hgA (And.intro hgB (And.intro hvl (And.intro hv hcd2))))))))
      have hqlt := lt_of_block hgq
      have hAlt := lt_of_block hgA
      have hBlt := lt_of_block hgB
      have hllx := hlx.lt
      have rB := range_of_block hgB
      have tA := there_of_block (n := 6) hgA (by rw [HZZ.out.2.2.1]; exact Nat.le_refl _)
      clear hgq hq hv hcd2 hvl hdx hux hlx hNx hUx hdT hgA hgB c0 c1 c2 c4
      have e0 : cd2 = 0 := by rw [HQ.out.2.2.2.2.2.2.2.2, if_neg hf]
      have ez : v = curB F O (base + an) := by rw [HQ.out.2.2.2.2.2.2.2.1, if_neg hf]
      subst e0
      have h0 : v = zB := ez.trans hz
      have hq0 : ∀ W, (Op.equalIn 10000 54 (.agg (bkC v).toArray) (.agg #[.int .u8 0, .int .u8 0, .int .u8 0, .int .u8 0, .int .u8 0, .int .u8 0, .int .u8 0, .int .u8 0, .int .u8 0, .int .u8 0, .int .u8 0, .int .u8 0, .int .u8 0, .int .u8 0, .int .u8 0, .int .u8 0, .int .u8 0, .int .u8 0, .int .u8 0, .int .u8 0, .int .u8 0, .int .u8 0, .int .u8 0, .int .u8 0, .int .u8 0, .int .u8 0, .int .u8 0, .int .u8 0, .int .u8 0, .int .u8 0, .int .u8 0, .int .u8 0, .int .u8 0, .int .u8 0, .int .u8 0, .int .u8 0, .int .u8 0, .int .u8 0, .int .u8 0, .int .u8 0, .int .u8 0, .int .u8 0, .int .u8 0, .int .u8 0, .int .u8 0, .int .u8 0, .int .u8 0, .int .u8 0, .int .u8 0, .int .u8 0, .int .u8 0, .int .u8 0, .int .u8 0, .int .u8 0, .int .u8 0, .int .u8 0, .int .u8 0, .int .u8 0, .int .u8 0, .int .u8 0, .int .u8 0, .int .u8 0, .int .u8 0, .int .u8 0])).run Tryz.prog W = .ok (v == zB) W := eqIn_bk v zB HQ.out.2.2.2.2.2.2.1 zB_len
      have hb0 : (v == zB) = true := by simpa using h0
      have HD : Hid (Dv (fun j => T j ∧ j ≠ w.heap.size) wc b F O P.tail ∧ Upd S w wc) := ⟨(HQ.out.1).wide (fun j h => ⟨h, HT.out.2.2.2.2.2.2.2.2.2.2.2.2 j h⟩), HQ.out.2.1⟩
      clear h0 ez
      go_wp2_with (first
        | (refine wpList_load_mid rfl _ _ rfl _ _ rfl _ _ rq Tryz.underlying54 rfl (sizeBk _ HQ.out.2.2.2.2.2.2.1) ?_)
        | (refine wpList_load_mid rfl _ _ rfl _ _ rfl _ _ rB Tryz.underlying159 rfl HZZ.out.2.2.2.2.2.1 ?_)
        | (refine wpList_store_mid rfl _ _ _ rfl _ _ Z.toArray rfl rfl (by rw [HZZ.out.2.2.1]; exact tA) HZZ.out.2.2.2.1 HZZ.out.2.2.2.2.1 ?_)
        | fail)
      refine bodyPost_ret (results_mid2 rfl _ _ w.heap.size 0 Z _ rfl (World.rangeAt_setCells_same _ _ _ _ (by rw [HZZ.out.2.1]; exact tA)) Tryz.underlying159 rfl HZZ.out.2.2.2.2.2.1) rfl ?_
      exact ⟨rfl, HD.out.1.keep (upd_row _ w.heap.size 0 _) (fun j h e => h.2 e) |>.wide (fun j h => HT.out.1 j h.1), HD.out.2.trans ((upd_row _ w.heap.size 0 _).mono (fun j _ e => e ▸ HAS.out))⟩
set_option maxRecDepth 100000 in
set_option maxHeartbeats 4000000 in
theorem lallC_z {S : Nat → Prop} {w : World} {l b base n fi : Nat} {F : List Bk} {O : List (Nat × Bk)} (hl : LogC w l b base n fi) (hd : Dv S w b F O []) (hn : ∀ j, w.heap.size ≤ j → S j) (hSl : ¬ S l) (hN : Nib w)
    (hSN : ¬ S 0) (hbn : base + n ≤ F.length) (hz : ∀ i, i < n → curB F O (base + i) = zB) :
    Calls Tryz.prog 82 #[.pointer (some ⟨l, 0, none⟩)] w (AllZ S w b F O 0) := by
  have hfl := hd.good.fl
  obtain ⟨-, -, c2, -⟩ := hl.c
  have H := Lib.hid (And.intro hl (And.intro hd (And.intro hn (And.intro hSl (And.intro hN (And.intro hSN hz))))))
  clear hl hd hn hSl hN hSN hz
  go_enter Tryz.func82, Tryz.ntmps82
  go_wp2
  go_step3
  go_wp2
  go_step3
  go_wp2
  go_loopg [4, 5, 15] n (fun gk s4 s5 s15 wr => ∃ i : Nat, i + gk = n ∧ s15 = .int .i64 i ∧ s5 = .int .i64 0 ∧ s4 = .slice none 0 0 ∧ Dv S wr b F O [] ∧ Upd S w wr)
  case atStart => exact ⟨0, by omega, rfl, rfl, rfl, H.out.2.1, Upd.refl _ _⟩
  case round =>
    obtain ⟨i, hi, rfl, rfl, rfl, hd, hU⟩ := hrel
    obtain ⟨hl, -, hn, hSl, hN, hSN, hz⟩ := H.out
    by_cases hlt : i < n
    · have HG := Lib.hid (lgetC_z (hl.keep hU hSl) hd (fun j hj => hn j (Nat.le_trans hU.size hj)) hSl (hN.keep hU hSN) hSN hbn (by decide) hlt (hz i hlt))
      have HU := Lib.hid hU
      have k1 : (i : Int) < (n : Int) := by omega
      clear hl hd hn hSl hN hSN hz hU
      go_wp2_with fail
      refine HG.out.mono ?_
      rintro e w9 ⟨rfl, hd9, hU9⟩
      have H9 := Lib.hid (And.intro hd9 (HU.out.trans hU9))
      clear hd9 hU9 HG
      generalize hZZ : [Value.int .i64 0, Value.int .i64 0, Value.int .i64 0, Value.int .i64 0, Value.int .i64 0, Value.int .i64 0] = Z at *
      have hsz : Hid ((Tryz.prog.info? 159).map (·.size) = some Z.length ∧ Z.length = 6 ∧ ∀ u ∈ Z, u.oneCell' = true) := by subst hZZ; exact ⟨infoCe, rfl, by intro u hu; simp at hu; subst hu; rfl⟩
      replace hZZ := Lib.hid hZZ
      go_wp2_with (first
        | (refine wpList_store_new rfl _ _ _ rfl _ _ _ rfl rfl (by rw [hsz.out.2.1]; rfl) hsz.out.1 hsz.out.2.2 ?_)
        | fail)
      obtain ⟨hd9, hU9⟩ := H9.out
      have hua : Upd (fun _ => False) w9 (w9.alloc (.cells Z.toArray 159)) := (Upd.refl _ _).alloc _
      have hd10 := hd9.new hua
      have hU10 := hU9.trans (hua.mono (fun _ _ h => h.elim))
      generalize w9.alloc (.cells Z.toArray 159) = w10 at *
      go_roundg (gk - 1)
      case measure => omega
      case rel => exact ⟨i + 1, by omega, by go_num, rfl, rfl, hd10, hU10⟩
    · obtain rfl : i = n := by omega
      have k1 : ¬ ((i : Int) < (i : Int)) := by omega
      have HE := Lib.hid (And.intro hd hU)
      clear hl hd hn hSl hN hSN hz hU
      go_wp2_with fail
      try rw [Exit.noGoto_ret]
      go_ret2
      exact ⟨rfl, HE.out.1, HE.out.2⟩
theorem infoFa : (Tryz.prog.info? 165).map (·.size) = some 13 := by kernel_rfl
structure LogF (w : World) (l b base n fi : Nat) : Prop where
  str : w.heap[l]? = some (.cells #[.pointer (some ⟨b, 0, none⟩), .int .i64 (base : Int), .int .i64 (n : Int), .func (.func 146) #[] #[], .func (.func 147) #[] #[], .func (.func fi) #[] #[]] 262 (0, 0))
theorem LogF.lt {w : World} {l b base n fi : Nat} (h : LogF w l b base n fi) : l < w.heap.size := lt_of_block h.str
theorem LogF.keep {w w' : World} {l b base n fi : Nat} (h : LogF w l b base n fi) {S : Nat → Prop} (hu : Upd S w w') (hs : ¬ S l) : LogF w' l b base n fi := ⟨(hu.block l h.lt hs).trans h.str⟩
theorem LogF.c {w : World} {l b base n fi : Nat} (h : LogF w l b base n fi) : w.cell? ⟨l, 0, none⟩ = some (.pointer (some ⟨b, 0, none⟩)) ∧ w.cell? ⟨l, 1, none⟩ = some (.int .i64 (base : Int)) ∧ w.cell? ⟨l, 2, none⟩ = some (.int .i64 (n : Int)) ∧
    w.cell? ⟨l, 3, none⟩ = some (.func (.func 146) #[] #[]) ∧ w.cell? ⟨l, 4, none⟩ = some (.func (.func 147) #[] #[]) ∧ w.cell? ⟨l, 5, none⟩ = some (.func (.func fi) #[] #[]) :=
  ⟨cell_of_block h.str 0, cell_of_block h.str 1, cell_of_block h.str 2, cell_of_block h.str 3, cell_of_block h.str 4, cell_of_block h.str 5⟩
theorem newF_ok {S : Nat → Prop} {w : World} {b : Nat} {F : List Bk} {O : List (Nat × Bk)} {P : List Int} (h : Dv S w b F O P) (base n : Nat) (hn : 1 ≤ n) (hbn : base + n ≤ F.length) (fi : Nat) :
    Calls Tryz.prog 145 #[.pointer (some ⟨b, 0, none⟩), .int .i64 (base : Int), .int .i64 (n : Int), .func (.func 146) #[] #[], .func (.func 147) #[] #[], .func (.func fi) #[] #[]] w
      fun e w' => e = .returned (.tuple #[.pointer (some ⟨w.heap.size, 0, none⟩), .int .i64 0]) ∧ LogF w' w.heap.size b base n fi ∧ Below w.heap.size w w' := by
  have hfl := h.good.fl
  have e1 := eql_fn 245 _ _ _ Tryz.underlying245
  have e2 := eql_fn 246 _ _ _ Tryz.underlying246
  have e3 := eql_fn 247 _ _ _ Tryz.underlying247
  have q1 : decide ((base : Int) < 0) = false := by simp
  have q2 : decide ((n : Int) < 1) = false := by simp; omega
  have q3 : decide ((F.length : Int) < (base : Int)) = false := by simp; omega
  have q4 : decide ((F.length : Int) - (base : Int) < (n : Int)) = false := by simp; omega
  have H := Lib.hid h
  clear h
  go_enter Tryz.func145, Tryz.ntmps145
  go_wp2_with (first | (go_at_call 47; refine (dsize H.out).mono ?_; rintro e w' ⟨rfl, rfl⟩))
  go_ret2
  exact ⟨rfl, ⟨heap_alloc_last _ _ rfl⟩, (Below.refl _ _).alloc (Nat.le_refl _) _⟩
end Go.Proofs.YtfhfbpmlnjdfoaaGreatDoor
